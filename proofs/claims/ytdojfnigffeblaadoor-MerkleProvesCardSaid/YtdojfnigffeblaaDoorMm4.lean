/- A text of a proof over this seat: walks over the program's functions and the plain laws that they need. -/
import Derived.Test.YtdojfnigffeblaaDoorMm3
import Derived.Test.YtdojfnigffeblaaDoorMkA
import Derived.Test.YtdojfnigffeblaaDoorFwC
import Derived.Test.YtdojfnigffeblaaDoorFwB
set_option linter.all false
namespace Go.Proofs.YtdojfnigffeblaaDoor
open Go.Fw
theorem ty54 : Tf Tryd.prog 54 (.struct #[⟨ "First", 3, 0, false, "", "", 0⟩, ⟨ "Size", 3, 1, false, "", "", 8⟩, ⟨ "Leaves", 24, 2, false, "", "", 16⟩, ⟨ "Sides", 48, 3, false, "", "", 40⟩]) 4 64 (.agg ([Value.int .i64 0, Value.int .i64 0] ++ [Value.slice none 0 0, Value.slice none 0 0]).toArray) := ⟨Tryd.underlying54, by kernel_rfl⟩
theorem fn16 : FnOk Tryd.prog 16 := ⟨_, Tryd.func16, rfl, by kernel_rfl⟩
theorem fn92 : FnOk Tryd.prog 92 := ⟨_, Tryd.func92, rfl, by kernel_rfl⟩

attribute [local irreducible] Sha.sum Sha.mac Sha.ofD Wi.int Wi.ints Wi.bytes Sha.inp Mk.half Lib.compareBytes

set_option maxRecDepth 4000 in
set_option maxHeartbeats 2000000 in
theorem rsides_step (v : Value) (ls : List Mk.Lf) (first en : Nat) (hl : ls.length < 1048576) (hx : ∀ x ∈ ls, x.1.length < 1048576 ∧ x.2.length < 1048576) (hf9 : first ≤ 1048576) (he9 : en ≤ 1048576) (fz0 : Nat × Nat) (bt0 : TypeId) (f : Nat) (ih : ∀ (lo hi : Int) (p0 n : Nat) (hp : lo = p0) (hh : hi = p0 + n) (hn1 : 1 ≤ n) (hnf : n ≤ f) (han : p0 + n ≤ ls.length) (w : World) (hb : Sl encF (ph w) v ls) (hg0 : w.heap[0]? = some (.cells (Sha.kc.map vw).toArray bt0 fz0)), Ct Tryd.prog 92 [v, vi (first : Int), vi (en : Int), vi lo, vi hi] w (fun r zs hs => zs = [] ∧ hs = [.row r 29 16 ((Mk.sidesD first en (Mk.sub ls p0 n) p0)).length (((Mk.sidesD first en (Mk.sub ls p0 n) p0)).flatten.map vb)])) (lo hi : Int) (p0 n : Nat) (hp : lo = p0) (hh : hi = p0 + n) (hn1 : 1 ≤ n) (hnf : n ≤ f + 1) (han : p0 + n ≤ ls.length) (w : World) (hb : Sl encF (ph w) v ls) (hg0 : w.heap[0]? = some (.cells (Sha.kc.map vw).toArray bt0 fz0)) : Ct Tryd.prog 92 [v, vi (first : Int), vi (en : Int), vi lo, vi hi] w (fun r zs hs => zs = [] ∧ hs = [.row r 29 16 ((Mk.sidesD first en (Mk.sub ls p0 n) p0)).length (((Mk.sidesD first en (Mk.sub ls p0 n) p0)).flatten.map vb)]) := by
 refine fn_enter Tryd.func92 rfl Tryd.ntmps92 (Nat.le_of_ble_eq_true rfl) fun a hF hS => ?_
 have hbl := hb.1
 have hr1 := Mk.rowD_16 (ls := Mk.sub ls p0 n) (by rw [Mk.sub_len (by omega)]; omega)
 refine wp_seq_k ?_; intro K1 hK1
 refine reg hF hS (sq rfl (q_assign rfl) <|
   sq_end) ?_
 clear hF hS; intro a w hF hS
 refine hK1 _ _ ?_
 clear hK1
 refine wp_seq_k ?_; intro K2 hK2
 refine wp_seq_k ?_; intro K3 hK3
 refine regl ?_
 refine wpl_sq hF hS (sq rfl (q_move rfl) <|
   sq rfl (q_move rfl) <|
   sq rfl (q_lei rfl rfl) <|
   sq rfl (q_move rfl) <|
   sq_end) ?_
 clear hF hS; intro a w hF hS
 refine wpl_or 3 16 3 hF hS rfl rfl rfl rfl rfl (fun hg => have hg := (by first | exact of_decide_eq_false hg | exact hg); sq_go 16 rfl rfl rfl (q_move rfl) <|
   sq_go 16 rfl rfl rfl (q_move rfl) <|
   sq_go 16 rfl rfl rfl (q_gei rfl rfl) <|
   sq_end) rfl rfl ?_
 clear hF hS; intro a w hF hS
 refine wpList_nil ?_
 refine hK3 _ _ ?_
 clear hK3
 refine wp_if hF rfl (fun hc1 => ?_) (fun hc1 => ?_)
 ·(try simp only [Bool.or_eq_true, Bool.and_eq_true, Bool.or_eq_false_iff, Bool.and_eq_false_iff, decide_eq_true_eq, decide_eq_false_iff_not, Bool.not_eq_true', Bool.not_eq_false'] at hc1)
  have ho : p0 + n ≤ first ∨ en ≤ p0 := by omega
  have hD : (Mk.sidesD first en (Mk.sub ls p0 n) p0) = [Mk.rowD (Mk.sub ls p0 n)] := Mk.sides_out' hn1 (by omega) ho
  have hrf := (Mk.rr_full (ls := ls) (sd := []) n n p0 [] 0 false hn1 (Nat.le_refl _) (by omega)).1
  refine wp_seq_k ?_; intro K4 hK4
  refine regl ?_
  refine wpl_sq hF hS (sq rfl (q_buildP (places := [(0, 1), (1, 1), (2, 1), (3, 1)]) (cells := [.slice none 0 0, .slice none 0 0, .int .i64 0, .bool false]) ty102 kQ rfl (by rfl)) <|
    sq_end) ?_
  clear hF hS; intro a w hF hS
  refine wpl_ef hF hS rfl (ef_boxA rfl) ?_
  clear hF hS; rintro _ _ _ a w ⟨b1, rfl, rfl, rfl⟩ hF hS
  refine wpl_sq hF hS (sq rfl (q_assign rfl) <|
    sq_end) ?_
  clear hF hS; intro a w hF hS
  refine wpList_nil ?_
  replace hS := hS.nilRow 9 1
  refine hK4 _ _ ?_
  clear hK4
  refine wp_seq_k ?_; intro K5 hK5
  refine regl ?_
  refine wpl_sq hF hS (sq rfl (q_move rfl) <|
    sq rfl (q_move rfl) <|
    sq rfl (q_move rfl) <|
    sq rfl (q_move rfl) <|
    sq_end) ?_
  clear hF hS; intro a w hF hS
  replace hS := hS.perm (.swap _ _ _)
  replace hS : St _ [] [_, _] _ := hS
  refine wpl_ef hF hS rfl (ef_callxN 2 fn85 rfl (by exact (row_ct _ (.slice none 0 0) _ ls 0 [] hl hx (fun _ h => by cases h) (by omega) _ _ _ _ hb sl_nil hg0 n _ _ p0 n (.slice none 0 0) [] 0 false hp hh hn1 (Nat.le_refl _) (by omega) (by rw [List.length_nil]; omega) (by omega) ))) ?_
  clear hF hS; rintro _ _ _ a w ⟨_, _, rfl, rfl, ⟨tv1, rfl, rfl, rfl⟩⟩ hF hS
  rw [hrf] at hF
  replace hS : St _ [] [_, _] _ := hS
  refine wpl_ef hF hS rfl (ef_bsliceW ty48 ty29 rfl bQ (by decide) oQ (by decide) (by decide)) ?_
  clear hF hS; rintro v4 _ _ a w ⟨rfl, rfl⟩ hF hS
  replace hS : St _ [] [_, _, _] _ := hS
  refine wpl_sq hF hS (sq rfl (q_assign rfl) <|
    sq_end) ?_
  clear hF hS; intro a w hF hS
  refine wpList_nil ?_
  refine hK5 _ _ ?_
  clear hK5
  refine wp_ret ?_
  replace hS := hS.rowEq (m' := List.length ((Mk.sidesD first en (Mk.sub ls p0 n) p0))) (cs' := List.map vb (List.flatten ((Mk.sidesD first en (Mk.sub ls p0 n) p0)))) (by rw [hD]; rfl) (by rw [hD]; simp)
  exact fn_ret (rs := [.tmp 10]) rfl hF hS (vs := [_]) ⟨rfl, trivial⟩ (zs' := []) (hs' := [_]) zQ (List.singleton_sublist.2 (List.mem_cons_self ..)) ⟨rfl, rfl⟩
 ·(try simp only [Bool.or_eq_true, Bool.and_eq_true, Bool.or_eq_false_iff, Bool.and_eq_false_iff, decide_eq_true_eq, decide_eq_false_iff_not, Bool.not_eq_true', Bool.not_eq_false'] at hc1)
  have ho : ¬ (p0 + n ≤ first ∨ en ≤ p0) := by omega
  refine wp_skip ?_
  refine hK2 _ _ ?_
  clear hK2
  refine wp_seq_k ?_; intro K6 hK6
  refine wp_seq_k ?_; intro K7 hK7
  refine reg hF hS (sq rfl (q_move rfl) <|
    sq rfl (q_move rfl) <|
    sq rfl (q_subi rfl rfl (by omega)) <|
    sq rfl (q_eqi rfl rfl) <|
    sq_end) ?_
  clear hF hS; intro a w hF hS
  refine hK7 _ _ ?_
  clear hK7
  refine wp_ifd hF rfl (fun hc2 => ?_) (fun hc2 => ?_)
  ·have hn3 : n = 1 := by omega
   have hD : (Mk.sidesD first en (Mk.sub ls p0 n) p0) = [] := by subst hn3; exact Mk.sides_1' (by omega) ho
   refine wp_seq_k ?_; intro K8 hK8
   refine reg hF hS (sq rfl (q_assign rfl) <|
     sq_end) ?_
   clear hF hS; intro a w hF hS
   refine hK8 _ _ ?_
   clear hK8
   refine wp_ret ?_
   replace hS := hS.nilRow 29 16
   replace hS := hS.rowEq (m' := List.length ((Mk.sidesD first en (Mk.sub ls p0 n) p0))) (cs' := List.map vb (List.flatten ((Mk.sidesD first en (Mk.sub ls p0 n) p0)))) (by rw [hD]; rfl) (by rw [hD]; rfl)
   exact fn_ret (rs := [.tmp 10]) rfl hF hS (vs := [_]) ⟨rfl, trivial⟩ (zs' := []) (hs' := [_]) zQ (List.singleton_sublist.2 (List.mem_cons_self ..)) ⟨rfl, rfl⟩
  ·have hn2 : 2 ≤ n := by omega
   have hhp := Mk.half_pos n
   have hhl := Mk.half_lt hn2
   have hD : (Mk.sidesD first en (Mk.sub ls p0 n) p0) = (Mk.sidesD first en (Mk.sub ls p0 (Mk.half n)) p0) ++ (Mk.sidesD first en (Mk.sub ls (p0 + Mk.half n) (n - Mk.half n)) (p0 + Mk.half n)) := Mk.sides_s' hn2 (by omega) ho
   have hb1 := Mk.sides_bd (ls := ls) (first := first) (en := en) (Mk.half n) (Mk.half n) p0 hhp (Nat.le_refl _) (by omega)
   have hb2 := Mk.sides_bd (ls := ls) (first := first) (en := en) (n - Mk.half n) (n - Mk.half n) (p0 + Mk.half n) (by omega) (Nat.le_refl _) (by omega)
   refine wp_skip ?_
   refine hK6 _ _ ?_
   clear hK6
   refine wp_seq_k ?_; intro K9 hK9
   refine reg hF hS (sq rfl (q_move rfl) <|
     sq rfl (q_move rfl) <|
     sq rfl (q_move rfl) <|
     sq rfl (q_subi rfl rfl (by omega)) <|
     sq rfl (q_call fn106 rfl (fun w hS => half_ct _ n (by omega) (by omega) (by omega) w ) (fun _ _ _ h => h)) <|
     sq rfl (q_addi rfl rfl (by omega)) <|
     sq rfl (q_assign rfl) <|
     sq_end) ?_
   clear hF hS; intro a w hF hS
   refine hK9 _ _ ?_
   clear hK9
   refine wp_seq_k ?_; intro K10 hK10
   refine regl ?_
   refine wpl_sq hF hS (sq rfl (q_move rfl) <|
     sq rfl (q_move rfl) <|
     sq rfl (q_move rfl) <|
     sq rfl (q_move rfl) <|
     sq rfl (q_move rfl) <|
     sq_end) ?_
   clear hF hS; intro a w hF hS
   refine wpl_ef hF hS rfl (ef_call fn92 rfl (fun w hS => ih _ _ p0 (Mk.half n)  (by omega) (by omega) (by omega) (by omega) (by omega) w (Sl.mono (hS.le zin0) hb) (hS.ext _ _ hg0))) ?_
   clear hF hS; rintro v6 _ _ a w ⟨_, _, rfl, rfl, rfl, rfl⟩ hF hS
   replace hS : St _ [] [_] _ := hS
   refine wpl_sq hF hS (sq rfl (q_move rfl) <|
     sq rfl (q_move rfl) <|
     sq rfl (q_move rfl) <|
     sq rfl (q_move rfl) <|
     sq rfl (q_move rfl) <|
     sq_end) ?_
   clear hF hS; intro a w hF hS
   refine wpl_ef hF hS rfl (ef_call fn92 rfl (fun w hS => ih _ _ (p0 + Mk.half n) (n - Mk.half n)  (by omega) (by omega) (by omega) (by omega) (by omega) w (Sl.mono (hS.le zin0) hb) (hS.ext _ _ hg0))) ?_
   clear hF hS; rintro v8 _ _ a w ⟨_, _, rfl, rfl, rfl, rfl⟩ hF hS
   replace hS : St _ [] [_, _] _ := hS
   refine wpl_ef hF hS rfl (ef_append ty48 ty29 1 rfl rfl rfl (src_row ty48 (k := 0) rfl oQ) bQ rfl (by decide)) ?_
   clear hF hS; rintro v10 _ _ a w ⟨rfl, rfl⟩ hF hS
   replace hS : St _ [] [_, _] _ := hS
   refine wpl_sq hF hS (sq rfl (q_assign rfl) <|
     sq_end) ?_
   clear hF hS; intro a w hF hS
   refine wpList_nil ?_
   refine hK10 _ _ ?_
   clear hK10
   refine wp_ret ?_
   replace hS := hS.perm (.swap _ _ _)
   replace hS := hS.rowEq (m' := List.length ((Mk.sidesD first en (Mk.sub ls p0 n) p0))) (cs' := List.map vb (List.flatten ((Mk.sidesD first en (Mk.sub ls p0 n) p0)))) (by rw [hD, List.length_append]) (by rw [hD, List.flatten_append, List.map_append])
   exact fn_ret (rs := [.tmp 10]) rfl hF hS (vs := [_]) ⟨rfl, trivial⟩ (zs' := []) (hs' := [_]) zQ (List.singleton_sublist.2 (List.mem_cons_self ..)) ⟨rfl, rfl⟩

theorem rsides_all (v : Value) (ls : List Mk.Lf) (first en : Nat) (hl : ls.length < 1048576) (hx : ∀ x ∈ ls, x.1.length < 1048576 ∧ x.2.length < 1048576) (hf9 : first ≤ 1048576) (he9 : en ≤ 1048576) (fz0 : Nat × Nat) (bt0 : TypeId) : ∀ (f : Nat) (lo hi : Int) (p0 n : Nat) (hp : lo = p0) (hh : hi = p0 + n) (hn1 : 1 ≤ n) (hnf : n ≤ f) (han : p0 + n ≤ ls.length) (w : World) (hb : Sl encF (ph w) v ls) (hg0 : w.heap[0]? = some (.cells (Sha.kc.map vw).toArray bt0 fz0)), Ct Tryd.prog 92 [v, vi (first : Int), vi (en : Int), vi lo, vi hi] w (fun r zs hs => zs = [] ∧ hs = [.row r 29 16 ((Mk.sidesD first en (Mk.sub ls p0 n) p0)).length (((Mk.sidesD first en (Mk.sub ls p0 n) p0)).flatten.map vb)]) := by
 intro f
 induction f with
 | zero => intro lo hi p0 n hp hh hn1 hnf; omega
 | succ f ih => exact fun lo hi p0 n hp hh hn1 hnf han w hb hg0 => rsides_step v ls first en hl hx hf9 he9 fz0 bt0 f ih lo hi p0 n hp hh hn1 hnf han w hb hg0

set_option maxRecDepth 4000 in
set_option maxHeartbeats 2000000 in
theorem rshown_ct (v : Value) (ls : List Mk.Lf) (first en : Nat) (fi ei : Int) (hfi : fi = first) (hei : ei = en) (hl : ls.length < 1048576) (hx : ∀ x ∈ ls, x.1.length < 1048576 ∧ x.2.length < 1048576) (hfe : first ≤ en) (hen : en ≤ ls.length) (w : World) (hb : Sl encF (ph w) v ls) {fz0 : Nat × Nat} {bt0 : TypeId} (hg0 : w.heap[0]? = some (.cells (Sha.kc.map vw).toArray bt0 fz0)) : Ct Tryd.prog 59 [v, vi fi, vi ei] w (PfR (Mk.shown ls first en)) := by
 refine fn_enter Tryd.func59 rfl Tryd.ntmps59 (Nat.le_of_ble_eq_true rfl) fun a hF hS => ?_
 subst hfi; subst hei
 have hbl := hb.1
 have hkv := F_all hb
 have hkc : ∀ x ∈ ((ls.take en).drop first), kvP x := fun x hx => hkv x (List.mem_of_mem_take (List.mem_of_mem_drop hx))
 have hcl : ((ls.take en).drop first).length ≤ 1048576 := by rw [List.length_drop, List.length_take]; omega
 refine wp_seq_k ?_; intro K1 hK1
 refine regl ?_
 refine wpl_ef hF hS rfl (ef_allocA ty54) ?_
 clear hF hS; rintro _ _ _ a w ⟨b1, rfl, rfl, rfl⟩ hF hS
 refine wpList_nil ?_
 refine hK1 _ _ ?_
 clear hK1
 refine wp_seq_k ?_; intro K2 hK2
 refine regl ?_
 refine wpl_sq hF hS (sq rfl (q_move rfl) <|
   sq rfl (q_move rfl) <|
   sq rfl (q_len_sl ty24 hb rfl) <|
   sq_end) ?_
 clear hF hS; intro a w hF hS
 refine wpl_ef hF hS rfl (ef_bslice0 ty24 ty75) ?_
 clear hF hS; rintro v2 _ _ a w ⟨rfl, rfl⟩ hF hS
 replace hS : St _ [] [_, _] _ := hS
 refine wpl_sq hF hS (sq rfl (q_move rfl) <|
   sq rfl (q_move rfl) <|
   sq rfl (q_move rfl) <|
   sq rfl (q_slsl_lo_hi ty24 ty75 hb rfl rfl rfl (by omega)) <|
   sq_end) ?_
 clear hF hS; intro a w hF hS
 refine wpl_ef hF hS rfl (ef_append ty24 ty75 0 rfl rfl rfl (src_slK ty24 (Sl.cut hb (by omega)) zin0 (by decide)) bQ rfl (by decide)) ?_
 clear hF hS; rintro v4 _ _ a w ⟨rfl, rfl⟩ hF hS
 replace hS : St _ [] [_, _] _ := hS
 refine wpl_sq hF hS (sq rfl (q_buildP (places := [(0, 1), (1, 1), (2, 1), (3, 1)]) (cells := [_, _, _, .slice none 0 0]) ty54 kQ rfl (fill_stepL (c := [_]) (l := [_, _, _, _]) (l' := [_, _, _, _]) rfl (cells_one rfl) rfl (Nat.le_of_ble_eq_true rfl) rfl (fill_stepL (c := [_]) (l := [_, _, _, _]) (l' := [_, _, _, _]) rfl (cells_one rfl) rfl (Nat.le_of_ble_eq_true rfl) rfl (fill_stepL (c := [_]) (l := [_, _, _, _]) (l' := [_, _, _, _]) rfl (cells_one (row_one (hS.own _ (List.mem_of_getElem? (i := 0) rfl)).1)) rfl (Nat.le_of_ble_eq_true rfl) rfl (fill_endL rfl))))) <|
   sq_end) ?_
 clear hF hS; intro a w hF hS
 refine wpl_ef hF hS rfl (ef_allocA ty54) ?_
 clear hF hS; rintro _ _ _ a w ⟨b5, rfl, rfl, rfl⟩ hF hS
 refine wpl_ef hF hS rfl (ef_storeW ty54 0 rfl rfl rfl rfl bQ (oc_cons rfl (oc_cons rfl (oc_cons (row_one (hS.own _ (List.mem_of_getElem? (i := 1) rfl)).1) (oc_cons rfl oc_nil)))) bQ) ?_
 clear hF hS; rintro _ _ _ a w ⟨rfl, rfl, rfl⟩ hF hS
 replace hS : St _ [] [_, _, _] _ := hS
 refine wpList_nil ?_
 refine hK2 _ _ ?_
 clear hK2
 refine wp_seq_k ?_; intro K3 hK3
 refine wp_seq_k ?_; intro K4 hK4
 refine reg hF hS (sq rfl (q_move rfl) <|
   sq rfl (q_len_sl ty24 hb rfl) <|
   sq rfl (q_gti rfl rfl) <|
   sq_end) ?_
 clear hF hS; intro a w hF hS
 refine hK4 _ _ ?_
 clear hK4
 refine wp_ifd hF rfl (fun hc1 => ?_) (fun hc1 => ?_)
 ·have hb1 := Mk.sides_bd (ls := ls) (first := first) (en := en) ls.length ls.length 0 (by omega) (Nat.le_refl _) (by omega)
  rw [Mk.sub_all] at hb1
  refine regl ?_
  refine wpl_sq hF hS (sq rfl (q_move rfl) <|
    sq rfl (q_move rfl) <|
    sq rfl (q_move rfl) <|
    sq rfl (q_move rfl) <|
    sq rfl (q_len_sl ty24 hb rfl) <|
    sq_end) ?_
  clear hF hS; intro a w hF hS
  refine wpl_ef hF hS rfl (ef_call fn92 rfl (fun w hS => rsides_all _ ls first en (by omega) hx (by omega) (by omega) _ _ ls.length _ _ 0 ls.length rfl (by omega) (by omega) (Nat.le_refl _) (by omega) w (Sl.mono (hS.le zin0) hb) (hS.ext _ _ hg0))) ?_
  clear hF hS; rintro v6 _ _ a w ⟨_, _, rfl, rfl, rfl, rfl⟩ hF hS
  replace hS : St _ [] [_, _, _, _] _ := hS
  refine wpl_sq hF hS (sq rfl (q_fieldAddr ty54 rfl rfl (s' := 0) kQ) <|
    sq_end) ?_
  clear hF hS; intro a w hF hS
  refine wpl_ef hF hS rfl (ef_store1 ty48 1 rfl rfl rfl (row_one (hS.own _ (List.mem_of_getElem? (i := 0) rfl)).1) (by simp)) ?_
  clear hF hS; rintro _ _ _ a w ⟨rfl, rfl, rfl⟩ hF hS
  replace hS : St _ [] [_, .blk _ _ ([_, _, _, _].set 3 _), _, _] _ := hS
  simp only [List.set_cons_zero, List.set_cons_succ] at hS
  replace hS : St _ [] [_, _, _, _] _ := hS
  refine wpList_nil ?_
  refine hK3 _ _ ?_
  clear hK3
  refine wp_seq_k ?_; intro K5 hK5
  refine regl ?_
  refine wpl_sq hF hS (sq rfl (q_ld_blkW ty54 1 rfl rfl bQ rfl) <|
    sq_end) ?_
  clear hF hS; intro a w hF hS
  refine wpl_ef hF hS rfl (ef_storeW ty54 3 rfl rfl rfl rfl bQ (oc_cons rfl (oc_cons rfl (oc_cons (row_one (hS.own _ (List.mem_of_getElem? (i := 2) rfl)).1) (oc_cons (row_one (hS.own _ (List.mem_of_getElem? (i := 0) rfl)).1) oc_nil)))) bQ) ?_
  clear hF hS; rintro _ _ _ a w ⟨rfl, rfl, rfl⟩ hF hS
  replace hS : St _ [] [_, _, _, _] _ := hS
  refine wpList_nil ?_
  refine hK5 _ _ ?_
  clear hK5
  refine wp_ret ?_
  replace hS := hS.perm (.cons _ (.swap _ _ _))
  replace hS := hS.perm (.swap _ _ _)
  obtain ⟨zk, hzk, hS⟩ := St.freezeF (xs := ((ls.take en).drop first)) (hS.rowEq (m' := List.length (((ls.take en).drop first))) (cs' := List.flatMap kvC (((ls.take en).drop first))) (by simp) (by simp)) rfl (by omega) (hkc)
  replace hS : St _ [_] [_, _, _] _ := hS
  obtain ⟨zm, hzm, hS⟩ := St.freezeA (m := 16) (l := Mk.sidesD first en ls 0) (hS.rowEq (m' := List.length (Mk.sidesD first en ls 0)) (cs' := List.map vb (List.flatten (Mk.sidesD first en ls 0))) (by rw [Mk.sub_all]) (by rw [Mk.sub_all])) rfl (by omega) (hb1.2)
  replace hS : St _ [_, _] [_, _] _ := hS
  replace hS := hS.zone00
  replace hS : St _ [_, _, _] [_, _] _ := hS
  obtain ⟨zu, hzu, hS⟩ := hS.union
  exact fn_ret (rs := [.cell 6 54]) rfl hF hS (vs := [_]) ⟨⟨_, _, _, _, _, _, _, rfl, List.mem_of_getElem? (i := 1) rfl, ty54, .inl ⟨rfl, bQ, rfl⟩⟩, trivial⟩ (zs' := [zu]) (hs' := []) (List.singleton_sublist.2 (by simp)) zQ (pf_of (q := ⟨(first : Int), (ls.length : Int), ((ls.take en).drop first), Mk.sidesD first en ls 0⟩) ⟨_, _, zu, rfl, Sl.mono (hzu _ (by simp)) hzk, Sl.mono (hzu _ (by simp)) hzm, rfl, rfl⟩ (by unfold Mk.shown; rw [if_neg (by omega)]))
 ·refine wp_skip ?_
  refine hK3 _ _ ?_
  clear hK3
  refine wp_seq_k ?_; intro K6 hK6
  refine regl ?_
  refine wpl_sq hF hS (sq rfl (q_ld_blkW ty54 0 rfl rfl bQ rfl) <|
    sq_end) ?_
  clear hF hS; intro a w hF hS
  refine wpl_ef hF hS rfl (ef_storeW ty54 2 rfl rfl rfl rfl bQ (oc_cons rfl (oc_cons rfl (oc_cons (row_one (hS.own _ (List.mem_of_getElem? (i := 1) rfl)).1) (oc_cons rfl oc_nil)))) bQ) ?_
  clear hF hS; rintro _ _ _ a w ⟨rfl, rfl, rfl⟩ hF hS
  replace hS : St _ [] [_, _, _] _ := hS
  refine wpList_nil ?_
  refine hK6 _ _ ?_
  clear hK6
  refine wp_ret ?_
  replace hS := hS.perm (.swap _ _ _)
  obtain ⟨zk, hzk, hS⟩ := St.freezeF (xs := ((ls.take en).drop first)) (hS.rowEq (m' := List.length (((ls.take en).drop first))) (cs' := List.flatMap kvC (((ls.take en).drop first))) (by simp) (by simp)) rfl (by omega) (hkc)
  replace hS : St _ [_] [_, _] _ := hS
  replace hS := hS.zone00
  replace hS : St _ [_, _] [_, _] _ := hS
  obtain ⟨zu, hzu, hS⟩ := hS.union
  exact fn_ret (rs := [.cell 6 54]) rfl hF hS (vs := [_]) ⟨⟨_, _, _, _, _, _, _, rfl, List.mem_of_getElem? (i := 1) rfl, ty54, .inl ⟨rfl, bQ, rfl⟩⟩, trivial⟩ (zs' := [zu]) (hs' := []) (List.singleton_sublist.2 (by simp)) zQ (pf_of (q := ⟨(first : Int), (ls.length : Int), ((ls.take en).drop first), []⟩) ⟨_, _, zu, rfl, Sl.mono (hzu _ (by simp)) hzk, sl_nil, rfl, rfl⟩ (by unfold Mk.shown; rw [if_pos (by omega)]))
end Go.Proofs.YtdojfnigffeblaaDoor
