/- A text of a proof over this seat: walks over the program's functions and the plain laws that they need. -/
import Derived.Test.YtdojfnigffeblaaDoorMm4
import Derived.Test.YtdojfnigffeblaaDoorFwC
import Derived.Test.YtdojfnigffeblaaDoorFwB
set_option linter.all false
namespace Go.Proofs.YtdojfnigffeblaaDoor
open Go.Fw
theorem ty50 : Tf Tryd.prog 50 (.struct #[⟨ "First", 3, 0, false, "", "", 0⟩, ⟨ "Size", 3, 1, false, "", "", 8⟩, ⟨ "Leaves", 33, 2, false, "", "", 16⟩, ⟨ "Sides", 48, 3, false, "", "", 40⟩]) 4 64 (.agg ([Value.int .i64 0, Value.int .i64 0] ++ [Value.slice none 0 0, Value.slice none 0 0]).toArray) := ⟨Tryd.underlying50, by kernel_rfl⟩
theorem ty139 : Tf Tryd.prog 139 (.func #[3, 3] #[] false) 1 8 (Value.nilFunc) := ⟨Tryd.underlying139, by kernel_rfl⟩
theorem fn63 : FnOk Tryd.prog 63 := ⟨_, Tryd.func63, rfl, by kernel_rfl⟩
theorem fn91 : FnOk Tryd.prog 91 := ⟨_, Tryd.func91, rfl, by kernel_rfl⟩

attribute [local irreducible] Sha.sum Sha.mac Sha.ofD Wi.int Wi.ints Wi.bytes Sha.inp Mk.half Lib.compareBytes

set_option maxRecDepth 4000 in
set_option maxHeartbeats 2000000 in
theorem cloneL_ct (v : Value) (ls : List Mk.Lf) (hl : ls.length < 2097152) (w : World) (hb : Sl encF (ph w) v ls) : Ct Tryd.prog 63 [v] w (SlR encF ls) := by
 refine fn_enter Tryd.func63 rfl Tryd.ntmps63 (Nat.le_of_ble_eq_true rfl) fun a hF hS => ?_
 have hbl := hb.1
 have hkv := F_all hb
 refine wp_seq_k ?_; intro K1 hK1
 refine reg hF hS (sq rfl (q_assign rfl) <|
   sq_end) ?_
 clear hF hS; intro a w hF hS
 refine hK1 _ _ ?_
 clear hK1
 refine wp_seq_k ?_; intro K2 hK2
 refine wp_seq_k ?_; intro K3 hK3
 refine reg hF hS (sq rfl (q_move rfl) <|
   sq rfl (q_eqnil ty33 hb rfl rfl) <|
   sq_end) ?_
 clear hF hS; intro a w hF hS
 refine hK3 _ _ ?_
 clear hK3
 refine wp_if hF rfl (fun hc1 => ?_) (fun hc1 => ?_)
 ·refine wp_seq_k ?_; intro K4 hK4
  refine reg hF hS (sq rfl (q_assign rfl) <|
    sq_end) ?_
  clear hF hS; intro a w hF hS
  refine hK4 _ _ ?_
  clear hK4
  refine wp_ret ?_
  replace hS := hS.zone00
  have hk0 := nilS_nil hb hc1
  subst hk0
  exact fn_ret (rs := [.tmp 2]) rfl hF hS (vs := [_]) ⟨rfl, trivial⟩ (zs' := [fun _ => none]) (hs' := []) (List.singleton_sublist.2 (by simp)) zQ ⟨_, sl_nil, rfl, rfl⟩
 ·refine wp_skip ?_
  refine hK2 _ _ ?_
  clear hK2
  refine wp_seq_k ?_; intro K5 hK5
  refine regl ?_
  refine wpl_ef hF hS rfl (ef_bslice0 ty33 ty41) ?_
  clear hF hS; rintro v1 _ _ a w ⟨rfl, rfl⟩ hF hS
  replace hS : St _ [] [_] _ := hS
  refine wpl_sq hF hS (sq rfl (q_move rfl) <|
    sq_end) ?_
  clear hF hS; intro a w hF hS
  refine wpl_ef hF hS rfl (ef_append ty33 ty41 0 rfl rfl rfl (src_slK ty33 hb zin0 (by decide)) bQ rfl (by decide)) ?_
  clear hF hS; rintro v3 _ _ a w ⟨rfl, rfl⟩ hF hS
  replace hS : St _ [] [_] _ := hS
  refine wpl_sq hF hS (sq rfl (q_assign rfl) <|
    sq_end) ?_
  clear hF hS; intro a w hF hS
  refine wpList_nil ?_
  refine hK5 _ _ ?_
  clear hK5
  refine wp_ret ?_
  obtain ⟨zr, hzr, hS⟩ := St.freezeF (xs := ls) (hS.rowEq (Nat.zero_add _) (List.nil_append _)) rfl (by omega) hkv
  exact fn_ret (rs := [.tmp 2]) rfl hF hS (vs := [_]) ⟨rfl, trivial⟩ (zs' := [zr]) (hs' := []) (List.singleton_sublist.2 (by simp)) zQ ⟨zr, hzr, rfl, rfl⟩

/-- What the closure over the sides makes of what it is lent. -/
def ShR (e4 e5 e7 e3 e8 : Nat) (c0 c1 c2 v : Value) (first en : Nat) (S : List Mk.Dg) : Value → List PH → List Res → Prop := fun r zs hs => ∃ uT, r = .tuple ([] : List Value).toArray ∧ zs = [] ∧ hs = [.blk e4 3 [vi (first : Int)], .blk e5 3 [vi (en : Int)], .blk e7 50 [c0, c1, c2, uT], .blk e3 33 [v], .blk e8 139 [.func (.func 91) (List.nil : List Value).toArray [Value.pointer (some ⟨e4, 0, none⟩), Value.pointer (some ⟨e5, 0, none⟩), Value.pointer (some ⟨e7, 0, none⟩), Value.pointer (some ⟨e3, 0, none⟩), Value.pointer (some ⟨e8, 0, none⟩)].toArray], .row uT 29 16 (S).length ((S).flatten.map vb)]
theorem sh_of {e4 e5 e7 e3 e8 : Nat} {c0 c1 c2 v : Value} {first en : Nat} {S S' : List Mk.Dg} {r : Value} {zs : List PH} {hs : List Res} (h : ShR e4 e5 e7 e3 e8 c0 c1 c2 v first en S r zs hs) (e : S' = S) : ShR e4 e5 e7 e3 e8 c0 c1 c2 v first en S' r zs hs := e ▸ h

set_option maxRecDepth 4000 in
set_option maxHeartbeats 2000000 in
theorem shown_step (e4 e5 e7 e3 e8 : Nat) (c0 c1 c2 v : Value) (ls : List Mk.Lf) (first en : Nat) (hc0 : c0.oneCell' = true) (hc1 : c1.oneCell' = true) (hc2 : c2.oneCell' = true) (hl : ls.length < 1048576) (hx : ∀ x ∈ ls, x.1.length < 1048576 ∧ x.2.length < 1048576) (hf9 : first ≤ 1048576) (he9 : en ≤ 1048576) (fz1 : Nat × Nat) (bt1 : TypeId) (w0 : World) (zsr : List PH) (hb : Sl encF (ph w0) v ls) (hg1 : w0.heap[2]? = some (.cells (Sha.kc.map vw).toArray bt1 fz1)) (f : Nat) (ih : ∀ (lo hi : Int) (p0 n : Nat) (u : Value) (S : List Mk.Dg) (hp : lo = p0) (hh : hi = p0 + n) (hn1 : 1 ≤ n) (hnf : n ≤ f) (han : p0 + n ≤ ls.length) (hS9 : S.length + n ≤ 100000000), Cx Tryd.prog 91 [vi lo, vi hi, .pointer (some ⟨e4, 0, none⟩), .pointer (some ⟨e5, 0, none⟩), .pointer (some ⟨e7, 0, none⟩), .pointer (some ⟨e3, 0, none⟩), .pointer (some ⟨e8, 0, none⟩)] w0 zsr [.blk e4 3 [vi (first : Int)], .blk e5 3 [vi (en : Int)], .blk e7 50 [c0, c1, c2, u], .blk e3 33 [v], .blk e8 139 [.func (.func 91) (List.nil : List Value).toArray [Value.pointer (some ⟨e4, 0, none⟩), Value.pointer (some ⟨e5, 0, none⟩), Value.pointer (some ⟨e7, 0, none⟩), Value.pointer (some ⟨e3, 0, none⟩), Value.pointer (some ⟨e8, 0, none⟩)].toArray], .row u 29 16 (S).length ((S).flatten.map vb)] (ShR e4 e5 e7 e3 e8 c0 c1 c2 v first en (S ++ (Mk.sidesD first en (Mk.sub ls p0 n) p0)))) (lo hi : Int) (p0 n : Nat) (u : Value) (S : List Mk.Dg) (hp : lo = p0) (hh : hi = p0 + n) (hn1 : 1 ≤ n) (hnf : n ≤ f + 1) (han : p0 + n ≤ ls.length) (hS9 : S.length + n ≤ 100000000) : Cx Tryd.prog 91 [vi lo, vi hi, .pointer (some ⟨e4, 0, none⟩), .pointer (some ⟨e5, 0, none⟩), .pointer (some ⟨e7, 0, none⟩), .pointer (some ⟨e3, 0, none⟩), .pointer (some ⟨e8, 0, none⟩)] w0 zsr [.blk e4 3 [vi (first : Int)], .blk e5 3 [vi (en : Int)], .blk e7 50 [c0, c1, c2, u], .blk e3 33 [v], .blk e8 139 [.func (.func 91) (List.nil : List Value).toArray [Value.pointer (some ⟨e4, 0, none⟩), Value.pointer (some ⟨e5, 0, none⟩), Value.pointer (some ⟨e7, 0, none⟩), Value.pointer (some ⟨e3, 0, none⟩), Value.pointer (some ⟨e8, 0, none⟩)].toArray], .row u 29 16 (S).length ((S).flatten.map vb)] (ShR e4 e5 e7 e3 e8 c0 c1 c2 v first en (S ++ (Mk.sidesD first en (Mk.sub ls p0 n) p0))) := by
 refine fn_enterx Tryd.func91 rfl Tryd.ntmps91 (Nat.le_of_ble_eq_true rfl) fun hsr a w hF hS => ?_
 replace hS : St _ (_) (_ :: _ :: _ :: _ :: _ :: _ :: _) _ := hS
 have hbl := hb.1
 have hcut : ((ls.take hi.toNat).drop lo.toNat) = Mk.sub ls p0 n := by rw [show hi.toNat = p0 + n by omega, show lo.toNat = p0 by omega, Mk.cut_sub]
 have hcl : ((ls.take hi.toNat).drop lo.toNat).length = n := by rw [hcut, Mk.sub_len (by omega)]
 have hr1 : (Mk.rowD ((ls.take hi.toNat).drop lo.toNat)).length = 16 := Mk.rowD_16 (by omega)
 refine wp_block ?_
 refine wp_seq_k ?_; intro K1 hK1
 refine regl ?_
 refine wpl_sq hF hS (sq rfl (q_move rfl) <|
   sq rfl (q_ld_blk1 ty3 0 rfl rfl rfl rfl) <|
   sq rfl (q_lei rfl rfl) <|
   sq rfl (q_move rfl) <|
   sq_end) ?_
 clear hF hS; intro a w hF hS
 refine wpl_or 3 14 3 hF hS rfl rfl rfl rfl rfl (fun hg => have hg := (by first | exact of_decide_eq_false hg | exact hg); sq_go 14 rfl rfl rfl (q_move rfl) <|
   sq_go 14 rfl rfl rfl (q_ld_blk1 ty3 1 rfl rfl rfl rfl) <|
   sq_go 14 rfl rfl rfl (q_gei rfl rfl) <|
   sq_end) rfl rfl ?_
 clear hF hS; intro a w hF hS
 refine wpl_sq hF hS (sq rfl (q_assign rfl) <|
   sq_end) ?_
 clear hF hS; intro a w hF hS
 refine wpList_nil ?_
 refine hK1 _ _ ?_
 clear hK1
 refine wp_if hF rfl (fun hc1 => ?_) (fun hc1 => ?_)
 ·(try simp only [Bool.or_eq_true, Bool.and_eq_true, Bool.or_eq_false_iff, Bool.and_eq_false_iff, decide_eq_true_eq, decide_eq_false_iff_not, Bool.not_eq_true', Bool.not_eq_false'] at hc1)
  have ho : p0 + n ≤ first ∨ en ≤ p0 := by omega
  have hD : (Mk.sidesD first en (Mk.sub ls p0 n) p0) = [Mk.rowD (Mk.sub ls p0 n)] := Mk.sides_out' hn1 (by omega) ho
  revert hS; revert hF; apply regJ (J := J2 (α0 := Value) (α1 := Value) 45 _ _ _ _ _) #[false, false, false, false, false, false, false, false, false, false, false] 11 mixed rfl rfl
  ·intro w hF hS
   refine goW_take 0 _ rfl kQ rfl hF (hS.keep sQ (sQ.n.n.n.n.n.n)) (q_fieldAddr ty50 rfl rfl (s' := 0) kQ) ?_
   clear hF; intro a hF
   refine goW_take 1 _ rfl kQ rfl hF (hS.keep sQ (sQ.n.n.n.k.n.n)) (q_ld_blk1 ty48 0 rfl rfl rfl rfl) ?_
   clear hF; intro a hF
   refine goW_take 2 _ rfl kQ rfl hF (hS.keep sQ (sQ.n.n.k.n.n.n)) (q_ld_blk1 ty33 0 rfl rfl rfl rfl) ?_
   clear hF; intro a hF
   refine goW_take 3 _ rfl kQ rfl hF (hS.keep sQ (sQ.n.n.n.n.n.n)) (q_move rfl) ?_
   clear hF; intro a hF
   refine goW_take 4 _ rfl kQ rfl hF (hS.keep sQ (sQ.n.n.n.n.n.n)) (q_move rfl) ?_
   clear hF; intro a hF
   refine goW_take 5 _ rfl kQ rfl hF (hS.keep sQ (sQ.n.n.n.n.n.n)) (q_slsl_lo_hi ty33 ty41 hb rfl rfl rfl (by omega)) ?_
   clear hF; intro a hF
   refine gQ 6 rfl rfl hF hS rfl (ef_qt (q_call fn51 rfl (fun w hS => digest_ct _ ((ls.take hi.toNat).drop lo.toNat) (by omega) (by omega) (fun x hx2 => hx x (List.mem_of_mem_take (List.mem_of_mem_drop hx2))) w (Sl.mono (hS.le zin0) (Sl.cut hb (by omega))) (hS.ext _ _ hg1)) (fun _ _ _ h => h))) ?_
   clear hF hS; rintro _ _ _ a w ⟨rfl, rfl, rfl⟩ hF hS
   refine ⟨⟨iQ, iQ, iQ, iQ, .inr (hS.keep sQ (sQ.n.n.n.k.n.n)), .inr (hS.keep sQ (sQ.n.n.n.n.n.n)), trivial⟩, ?_⟩
   refine gQ 7 rfl rfl hF hS rfl (ef_bsliceW ty48 ty29 rfl bQ (by decide) oQ (by decide) (by decide)) ?_
   clear hF hS; rintro v_1_7 _ _ a w ⟨rfl, rfl⟩ hF hS
   replace hS : St _ (_) (_ :: _ :: _ :: _ :: _ :: _ :: _ :: _) _ := hS
   refine ⟨⟨iQ, iQ, iQ, iQ, .inr (hS.keep sQ (sQ.n.n.n.k.n.n.n)), .inr (hS.keep sQ (sQ.n.n.n.n.n.n.n)), trivial⟩, ?_⟩
   refine gQ 8 rfl rfl hF hS rfl (ef_append ty48 ty29 6 rfl rfl rfl (src_row ty48 (k := 0) rfl oQ) bQ rfl (by decide)) ?_
   clear hF hS; rintro v_1_8 _ _ a w ⟨rfl, rfl⟩ hF hS
   replace hS : St _ (_) (_ :: _ :: _ :: _ :: _ :: _ :: _ :: _) _ := hS
   refine ⟨⟨iQ, iQ, iQ, iQ, iQ, iQ, trivial⟩, ?_⟩
   refine goW_take 9 _ rfl kQ rfl hF (hS.keep sQ (sQ.n.n.n.n.n.n.n)) (q_fieldAddr ty50 rfl rfl (s' := 0) kQ) ?_
   clear hF; intro a hF
   refine gQ 10 rfl rfl hF hS rfl (ef_store1 ty48 3 rfl rfl rfl (row_one (hS.own _ (List.mem_of_getElem? (i := 6) rfl)).1) (by simp)) ?_
   clear hF hS; rintro _ _ _ a w ⟨rfl, rfl, rfl⟩ hF hS
   replace hS : St _ (_) (_ :: _ :: _ :: .blk _ _ ([_, _, _, _].set 3 _) :: _ :: _ :: _ :: _) _ := hS
   simp only [List.set_cons_zero, List.set_cons_succ] at hS
   replace hS : St _ (_) (_ :: _ :: _ :: _ :: _ :: _ :: _ :: _) _ := hS
   refine ⟨⟨iQ, iQ, iQ, iQ, iQ, iQ, iQ, trivial⟩, ?_⟩
   exact goW_done kQ (j2_mk v_1_7 v_1_8 (trivial) (hF.sub (L' := []) trivial) hS)
  rintro a w ⟨v_1_7, v_1_8, -, hF, hS⟩
  (try dsimp only at hF); (try dsimp only at hS)
  -- falls off the end
  replace hS := hS.perm (.swap _ _ _)
  replace hS := hS.perm (.cons _ (.swap _ _ _))
  replace hS := hS.perm (.cons _ (.cons _ (.swap _ _ _)))
  replace hS := hS.perm (.cons _ (.cons _ (.cons _ (.swap _ _ _))))
  replace hS := hS.perm (.cons _ (.cons _ (.cons _ (.cons _ (.swap _ _ _)))))
  replace hS := hS.perm (.cons _ (.cons _ (.cons _ (.cons _ (.cons _ (.swap _ _ _))))))
  exact fn_retx (rs := []) rfl hF hS (vs := []) trivial [] [_, _, _, _, _, _] sQ (sQ.n.k.k.k.k.k.k) (sh_of (S := S ++ [Mk.rowD (Mk.sub ls p0 n)]) ⟨_, rfl, rfl, by rw [hcut, List.length_append, List.length_singleton, List.flatten_append, List.map_append, List.flatten_singleton]⟩ (by rw [hD]))
 ·(try simp only [Bool.or_eq_true, Bool.and_eq_true, Bool.or_eq_false_iff, Bool.and_eq_false_iff, decide_eq_true_eq, decide_eq_false_iff_not, Bool.not_eq_true', Bool.not_eq_false'] at hc1)
  have ho : ¬ (p0 + n ≤ first ∨ en ≤ p0) := by omega
  refine wp_seq_k ?_; intro K2 hK2
  refine reg hF hS (sq rfl (q_move rfl) <|
    sq rfl (q_move rfl) <|
    sq rfl (q_subi rfl rfl (by omega)) <|
    sq rfl (q_gti rfl rfl) <|
    sq rfl (q_assign rfl) <|
    sq_end) ?_
  clear hF hS; intro a w hF hS
  refine hK2 _ _ ?_
  clear hK2
  refine wp_ifd hF rfl (fun hc2 => ?_) (fun hc2 => ?_)
  ·have hn2 : 2 ≤ n := by omega
   have hhp := Mk.half_pos n
   have hhl := Mk.half_lt hn2
   have hD : (Mk.sidesD first en (Mk.sub ls p0 n) p0) = (Mk.sidesD first en (Mk.sub ls p0 (Mk.half n)) p0) ++ (Mk.sidesD first en (Mk.sub ls (p0 + Mk.half n) (n - Mk.half n)) (p0 + Mk.half n)) := Mk.sides_s' hn2 (by omega) ho
   have hb1 := Mk.sides_bd (ls := ls) (first := first) (en := en) (Mk.half n) (Mk.half n) p0 hhp (Nat.le_refl _) (by omega)
   have hb2 : (S ++ (Mk.sidesD first en (Mk.sub ls p0 (Mk.half n)) p0)).length = S.length + (Mk.sidesD first en (Mk.sub ls p0 (Mk.half n)) p0).length := List.length_append
   refine wp_seq_k ?_; intro K3 hK3
   refine reg hF hS (sq rfl (q_move rfl) <|
     sq rfl (q_move rfl) <|
     sq rfl (q_call fn81 rfl (fun w hS => middle_ct _ _ n (by omega) (by omega) (by omega) (by omega) w ) (fun _ _ _ h => h)) <|
     sq rfl (q_assign rfl) <|
     sq_end) ?_
   clear hF hS; intro a w hF hS
   refine hK3 _ _ ?_
   clear hK3
   refine wp_seq_k ?_; intro K4 hK4
   refine regl ?_
   refine wpl_sq hF hS (sq rfl (q_ld_blk1 ty139 4 rfl rfl rfl rfl) <|
     sq rfl (q_move rfl) <|
     sq rfl (q_move rfl) <|
     sq_end) ?_
   clear hF hS; intro a w hF hS
   refine wpl_ef hF hS rfl (ef_callvxN 6 fn91 rfl rfl (by exact (ih _ _ p0 (Mk.half n) _ S  (by omega) (by omega) (by omega) (by omega) (by omega) (by omega) ))) ?_
   clear hF hS; rintro _ _ _ a w ⟨_, _, rfl, rfl, ⟨u1, rfl, rfl, rfl⟩⟩ hF hS
   replace hS : St _ (_) (_ :: _ :: _ :: _ :: _ :: _ :: _) _ := hS
   refine wpList_nil ?_
   refine hK4 _ _ ?_
   clear hK4
   refine regl ?_
   refine wpl_sq hF hS (sq rfl (q_ld_blk1 ty139 4 rfl rfl rfl rfl) <|
     sq rfl (q_move rfl) <|
     sq rfl (q_move rfl) <|
     sq_end) ?_
   clear hF hS; intro a w hF hS
   refine wpl_ef hF hS rfl (ef_callvxN 6 fn91 rfl rfl (by exact (ih _ _ (p0 + Mk.half n) (n - Mk.half n) _ (S ++ (Mk.sidesD first en (Mk.sub ls p0 (Mk.half n)) p0))  (by omega) (by omega) (by omega) (by omega) (by omega) (by omega) ))) ?_
   clear hF hS; rintro _ _ _ a w ⟨_, _, rfl, rfl, ⟨u2, rfl, rfl, rfl⟩⟩ hF hS
   replace hS : St _ (_) (_ :: _ :: _ :: _ :: _ :: _ :: _) _ := hS
   refine wpList_nil ?_
   -- falls off the end
   exact fn_retx (rs := []) rfl hF hS (vs := []) trivial [] [_, _, _, _, _, _] sQ sQ (sh_of (S := (S ++ (Mk.sidesD first en (Mk.sub ls p0 (Mk.half n)) p0)) ++ (Mk.sidesD first en (Mk.sub ls (p0 + Mk.half n) (n - Mk.half n)) (p0 + Mk.half n))) ⟨_, rfl, rfl, rfl⟩ (by rw [hD, List.append_assoc]))
  ·have hn3 : n = 1 := by omega
   have hD : (Mk.sidesD first en (Mk.sub ls p0 n) p0) = [] := by subst hn3; exact Mk.sides_1' (by omega) ho
   refine wp_skip ?_
   -- falls off the end
   exact fn_retx (rs := []) rfl hF hS (vs := []) trivial [] [_, _, _, _, _, _] sQ sQ (sh_of (S := S) ⟨_, rfl, rfl, rfl⟩ (by rw [hD, List.append_nil]))

theorem shown_all (e4 e5 e7 e3 e8 : Nat) (c0 c1 c2 v : Value) (ls : List Mk.Lf) (first en : Nat) (hc0 : c0.oneCell' = true) (hc1 : c1.oneCell' = true) (hc2 : c2.oneCell' = true) (hl : ls.length < 1048576) (hx : ∀ x ∈ ls, x.1.length < 1048576 ∧ x.2.length < 1048576) (hf9 : first ≤ 1048576) (he9 : en ≤ 1048576) (fz1 : Nat × Nat) (bt1 : TypeId) (w0 : World) (zsr : List PH) (hb : Sl encF (ph w0) v ls) (hg1 : w0.heap[2]? = some (.cells (Sha.kc.map vw).toArray bt1 fz1)) : ∀ (f : Nat) (lo hi : Int) (p0 n : Nat) (u : Value) (S : List Mk.Dg) (hp : lo = p0) (hh : hi = p0 + n) (hn1 : 1 ≤ n) (hnf : n ≤ f) (han : p0 + n ≤ ls.length) (hS9 : S.length + n ≤ 100000000), Cx Tryd.prog 91 [vi lo, vi hi, .pointer (some ⟨e4, 0, none⟩), .pointer (some ⟨e5, 0, none⟩), .pointer (some ⟨e7, 0, none⟩), .pointer (some ⟨e3, 0, none⟩), .pointer (some ⟨e8, 0, none⟩)] w0 zsr [.blk e4 3 [vi (first : Int)], .blk e5 3 [vi (en : Int)], .blk e7 50 [c0, c1, c2, u], .blk e3 33 [v], .blk e8 139 [.func (.func 91) (List.nil : List Value).toArray [Value.pointer (some ⟨e4, 0, none⟩), Value.pointer (some ⟨e5, 0, none⟩), Value.pointer (some ⟨e7, 0, none⟩), Value.pointer (some ⟨e3, 0, none⟩), Value.pointer (some ⟨e8, 0, none⟩)].toArray], .row u 29 16 (S).length ((S).flatten.map vb)] (ShR e4 e5 e7 e3 e8 c0 c1 c2 v first en (S ++ (Mk.sidesD first en (Mk.sub ls p0 n) p0))) := by
 intro f
 induction f with
 | zero => intro lo hi p0 n u S hp hh hn1 hnf; omega
 | succ f ih => exact fun lo hi p0 n u S hp hh hn1 hnf han hS9 => shown_step e4 e5 e7 e3 e8 c0 c1 c2 v ls first en hc0 hc1 hc2 hl hx hf9 he9 fz1 bt1 w0 zsr hb hg1 f ih lo hi p0 n u S hp hh hn1 hnf han hS9

set_option maxRecDepth 4000 in
set_option maxHeartbeats 2000000 in
theorem shown_ct (v : Value) (ls : List Mk.Lf) (first en : Nat) (fi ei : Int) (hfi : fi = first) (hei : ei = en) (hl : ls.length < 1048576) (hx : ∀ x ∈ ls, x.1.length < 1048576 ∧ x.2.length < 1048576) (hfe : first ≤ en) (hen : en ≤ ls.length) (w : World) (hb : Sl encF (ph w) v ls) {fz1 : Nat × Nat} {bt1 : TypeId} (hg1 : w.heap[2]? = some (.cells (Sha.kc.map vw).toArray bt1 fz1)) : Ct Tryd.prog 57 [v, vi fi, vi ei] w (PfR (Mk.shown ls first en)) := by
 refine fn_enter Tryd.func57 rfl Tryd.ntmps57 (Nat.le_of_ble_eq_true rfl) fun a hF hS => ?_
 subst hfi; subst hei
 have hbl := hb.1
 have hcl : ((ls.take en).drop first).length ≤ 1048576 := by rw [List.length_drop, List.length_take]; omega
 have htn : ((en : Int).toNat = en) ∧ ((first : Int).toNat = first) := ⟨Int.toNat_natCast _, Int.toNat_natCast _⟩
 have hcl2 : ((ls.take (en : Int).toNat).drop (first : Int).toNat).length ≤ 1048576 := by rw [htn.1, htn.2]; exact hcl
 refine wp_seq_k ?_; intro K1 hK1
 refine regl ?_
 refine wpl_ef hF hS rfl (ef_box1 rfl (sl_one' hb)) ?_
 clear hF hS; rintro _ _ _ a w ⟨b1, rfl, rfl, rfl⟩ hF hS
 refine wpl_ef hF hS rfl (ef_box1 rfl rfl) ?_
 clear hF hS; rintro _ _ _ a w ⟨b2, rfl, rfl, rfl⟩ hF hS
 refine wpl_ef hF hS rfl (ef_box1 rfl rfl) ?_
 clear hF hS; rintro _ _ _ a w ⟨b3, rfl, rfl, rfl⟩ hF hS
 refine wpl_ef hF hS rfl (ef_allocA ty50) ?_
 clear hF hS; rintro _ _ _ a w ⟨b4, rfl, rfl, rfl⟩ hF hS
 refine wpList_nil ?_
 refine hK1 _ _ ?_
 clear hK1
 refine wp_seq_k ?_; intro K2 hK2
 revert hS; revert hF; apply regJ (J := J3 (α0 := Value) (α1 := PH) (α2 := Nat) 27 _ _ _ _ _) #[false, false, false, false, false, false, false, false, false, false, false] 11 mixed rfl rfl
 ·intro w hF hS
  refine goW_take 0 _ rfl kQ rfl hF (hS.keep sQ (zQ.k.n.n)) (q_ld_blk1 ty3 0 rfl rfl rfl rfl) ?_
  clear hF; intro a hF
  refine goW_take 1 _ rfl kQ rfl hF (hS.keep sQ (sQ.n.n.n)) (q_ld_blk1 ty33 0 rfl rfl rfl rfl) ?_
  clear hF; intro a hF
  refine goW_take 2 _ rfl kQ rfl hF (hS.keep sQ zQ) (q_len_sl ty33 hb rfl) ?_
  clear hF; intro a hF
  refine goW_take 3 _ rfl kQ rfl hF (hS.keep sQ (sQ.n.n.n)) (q_ld_blk1 ty33 0 rfl rfl rfl rfl) ?_
  clear hF; intro a hF
  refine goW_take 4 _ rfl kQ rfl hF (hS.keep sQ (zQ.k.n.n)) (q_ld_blk1 ty3 0 rfl rfl rfl rfl) ?_
  clear hF; intro a hF
  refine goW_take 5 _ rfl kQ rfl hF (hS.keep sQ (zQ.k.n)) (q_ld_blk1 ty3 0 rfl rfl rfl rfl) ?_
  clear hF; intro a hF
  refine goW_take 6 _ rfl kQ rfl hF (hS.keep sQ zQ) (q_slsl_lo_hi ty33 ty41 hb rfl rfl rfl (by omega)) ?_
  clear hF; intro a hF
  refine goW_fork [7, 9] kQ rfl ⟨?_, ?_, trivial⟩
  ·refine stepW_ef _ rfl rfl hF hS rfl (ef_call fn63 rfl (fun w hS => cloneL_ct _ _ (by first | with_reducible assumption | omega | (simp; omega)) w (Sl.mono (hS.le zin0) (Sl.cut hb (by omega))))) ?_
   clear hF hS; rintro v_1_7 _ _ a w ⟨_, _, rfl, rfl, ⟨z_1_7, hz_1_7, rfl, rfl⟩⟩ hF hS
   refine ⟨⟨iQ, iQ, iQ, iQ, .inr hS.k0, .inr (hS.k1 (sQ.n.n.n)), .inr (hS.k1 (zQ.k.n.n)), trivial⟩, ?_⟩
   refine goW_take 8 _ rfl kQ rfl hF (hS.keep sQ zQ) (q_buildP (places := [(0, 1), (1, 1), (2, 1), (3, 1)]) (cells := [_, _, _, .slice none 0 0]) ty50 kQ rfl (fill_stepL (c := [_]) (l := [_, _, _, _]) (l' := [_, _, _, _]) rfl (cells_one rfl) rfl (Nat.le_of_ble_eq_true rfl) rfl (fill_stepL (c := [_]) (l := [_, _, _, _]) (l' := [_, _, _, _]) rfl (cells_one rfl) rfl (Nat.le_of_ble_eq_true rfl) rfl (fill_stepL (c := [_]) (l := [_, _, _, _]) (l' := [_, _, _, _]) rfl (cells_one (sl_one' hz_1_7)) rfl (Nat.le_of_ble_eq_true rfl) rfl (fill_endL rfl))))) ?_
   clear hF; intro a hF
   refine gQ 9 rfl rfl hF hS rfl (ef_allocA ty50) ?_
   clear hF hS; rintro _ _ _ a w ⟨b_1_9, rfl, rfl, rfl⟩ hF hS
   refine ⟨⟨.inr (hS.keep sQ zQ), iQ, iQ, iQ, iQ, .inr hS.k0, .inr (hS.k1 (sQ.n.n.n.n)), .inr (hS.k1 (zQ.k.n.n.n)), trivial⟩, ?_⟩
   refine gQ 10 rfl rfl hF hS rfl (ef_storeW ty50 0 rfl rfl rfl rfl bQ (oc_cons rfl (oc_cons rfl (oc_cons (sl_one' hz_1_7) (oc_cons rfl oc_nil)))) bQ) ?_
   clear hF hS; rintro _ _ _ a w ⟨rfl, rfl, rfl⟩ hF hS
   refine ⟨⟨iQ, iQ, iQ, iQ, iQ, iQ, iQ, iQ, trivial⟩, ?_⟩
   exact goW_done kQ (j3_mk v_1_7 z_1_7 b_1_9 ((And.intro hz_1_7 trivial)) (hF.sub (L' := [(3, _), (4, _), (5, _), (6, _), (7, _)]) ⟨rfl, rfl, rfl, rfl, rfl, trivial⟩) hS)
  ·refine stepW_ef _ rfl rfl hF hS rfl (ef_allocA ty50) ?_
   clear hF hS; rintro _ _ _ a w ⟨b_1_9, rfl, rfl, rfl⟩ hF hS
   refine ⟨⟨.inr hS.k0, .inr (hS.k1 (zQ.k.n.n)), .inr (hS.k1 (zQ.k.n.n.n)), .inr (hS.k1 (sQ.n.n.n.n)), .inr hS.k0, .inr (hS.k1 (sQ.n.n.n.n)), .inr (hS.k1 (zQ.k.n.n.n)), trivial⟩, ?_⟩
   refine gQ 7 rfl rfl hF hS rfl (ef_call fn63 rfl (fun w hS => cloneL_ct _ _ (by first | with_reducible assumption | omega | (simp; omega)) w (Sl.mono (hS.le zin0) (Sl.cut hb (by omega))))) ?_
   clear hF hS; rintro v_1_7 _ _ a w ⟨_, _, rfl, rfl, ⟨z_1_7, hz_1_7, rfl, rfl⟩⟩ hF hS
   refine ⟨⟨iQ, iQ, iQ, iQ, .inr hS.k0, .inr (hS.k1 (sQ.n.n.n.n)), .inr (hS.k1 (zQ.k.n.n.n)), trivial⟩, ?_⟩
   refine goW_take 8 _ rfl kQ rfl hF (hS.keep sQ zQ) (q_buildP (places := [(0, 1), (1, 1), (2, 1), (3, 1)]) (cells := [_, _, _, .slice none 0 0]) ty50 kQ rfl (fill_stepL (c := [_]) (l := [_, _, _, _]) (l' := [_, _, _, _]) rfl (cells_one rfl) rfl (Nat.le_of_ble_eq_true rfl) rfl (fill_stepL (c := [_]) (l := [_, _, _, _]) (l' := [_, _, _, _]) rfl (cells_one rfl) rfl (Nat.le_of_ble_eq_true rfl) rfl (fill_stepL (c := [_]) (l := [_, _, _, _]) (l' := [_, _, _, _]) rfl (cells_one (sl_one' hz_1_7)) rfl (Nat.le_of_ble_eq_true rfl) rfl (fill_endL rfl))))) ?_
   clear hF; intro a hF
   refine gQ 10 rfl rfl hF hS rfl (ef_storeW ty50 0 rfl rfl rfl rfl bQ (oc_cons rfl (oc_cons rfl (oc_cons (sl_one' hz_1_7) (oc_cons rfl oc_nil)))) bQ) ?_
   clear hF hS; rintro _ _ _ a w ⟨rfl, rfl, rfl⟩ hF hS
   refine ⟨⟨iQ, iQ, iQ, iQ, iQ, iQ, iQ, iQ, trivial⟩, ?_⟩
   exact goW_done kQ (j3_mk v_1_7 z_1_7 b_1_9 ((And.intro hz_1_7 trivial)) (hF.sub (L' := [(3, _), (4, _), (5, _), (6, _), (7, _)]) ⟨rfl, rfl, rfl, rfl, rfl, trivial⟩) hS)
 rintro a w ⟨v_1_7, z_1_7, b_1_9, ⟨hz_1_7, -⟩, hF, hS⟩
 (try dsimp only at hF); (try dsimp only at hS)
 replace hS := hS.nilRow 29 16
 refine hK2 _ _ ?_
 clear hK2
 refine wp_seq_k ?_; intro K3 hK3
 refine regl ?_
 refine wpl_ef hF hS rfl (ef_alloc1 ty139 (by rfl)) ?_
 clear hF hS; rintro _ _ _ a w ⟨b6, rfl, rfl, rfl⟩ hF hS
 refine wpList_nil ?_
 refine hK3 _ _ ?_
 clear hK3
 refine wp_seq_k ?_; intro K4 hK4
 refine regl ?_
 refine wpl_sq hF hS (sq rfl (q_mkf rfl rfl) <|
   sq_end) ?_
 clear hF hS; intro a w hF hS
 refine wpl_ef hF hS rfl (ef_store1 ty139 0 rfl rfl rfl rfl (by simp)) ?_
 clear hF hS; rintro _ _ _ a w ⟨rfl, rfl, rfl⟩ hF hS
 (try simp only [List.set_cons_zero, List.set_cons_succ] at hS)
 replace hS : St _ [_] [_, _, _, _, _, _, _] _ := hS
 refine wpList_nil ?_
 refine hK4 _ _ ?_
 clear hK4
 refine wp_seq_k ?_; intro K5 hK5
 refine wp_seq_k ?_; intro K6 hK6
 refine reg hF hS (sq rfl (q_ld_blk1 ty33 6 rfl rfl rfl rfl) <|
   sq rfl (q_len_sl ty33 hb rfl) <|
   sq rfl (q_gti rfl rfl) <|
   sq_end) ?_
 clear hF hS; intro a w hF hS
 refine hK6 _ _ ?_
 clear hK6
 refine wp_ifd hF rfl (fun hc1 => ?_) (fun hc1 => ?_)
 ·have hb1 := Mk.sides_bd (ls := ls) (first := first) (en := en) ls.length ls.length 0 (by omega) (Nat.le_refl _) (by omega)
  rw [Mk.sub_all] at hb1
  refine regl ?_
  refine wpl_sq hF hS (sq rfl (q_ld_blk1 ty139 0 rfl rfl rfl rfl) <|
    sq rfl (q_ld_blk1 ty33 6 rfl rfl rfl rfl) <|
    sq rfl (q_len_sl ty33 hb rfl) <|
    sq_end) ?_
  clear hF hS; intro a w hF hS
  replace hS := hS.perm (.cons _ (.cons _ (.cons _ (.cons _ (.swap _ _ _)))))
  replace hS := hS.perm (.cons _ (.cons _ (.cons _ (.swap _ _ _))))
  replace hS := hS.perm (.cons _ (.cons _ (.swap _ _ _)))
  replace hS := hS.perm (.cons _ (.swap _ _ _))
  replace hS := hS.perm (.swap _ _ _)
  replace hS := hS.perm (.cons _ (.cons _ (.cons _ (.cons _ (.swap _ _ _)))))
  replace hS := hS.perm (.cons _ (.cons _ (.cons _ (.swap _ _ _))))
  replace hS := hS.perm (.cons _ (.cons _ (.swap _ _ _)))
  replace hS := hS.perm (.cons _ (.swap _ _ _))
  replace hS := hS.perm (.cons _ (.cons _ (.cons _ (.swap _ _ _))))
  replace hS := hS.perm (.cons _ (.cons _ (.swap _ _ _)))
  replace hS := hS.perm (.cons _ (.cons _ (.cons _ (.cons _ (.cons _ (.swap _ _ _))))))
  replace hS := hS.perm (.cons _ (.cons _ (.cons _ (.cons _ (.swap _ _ _)))))
  replace hS := hS.perm (.cons _ (.cons _ (.cons _ (.swap _ _ _))))
  replace hS : St _ [_] [_, _, _, _, _, _, _] _ := hS
  refine wpl_ef hF hS rfl (ef_callvxN 6 fn91 rfl rfl (by exact (shown_all _ _ _ _ _ _ _ _ _ ls first en rfl rfl (sl_one' hz_1_7) hl hx (by omega) (by omega) _ _ _ _ hb hg1 ls.length _ _ 0 ls.length (.slice none 0 0) [] rfl (by omega) (by omega) (Nat.le_refl _) (by omega) (by rw [List.length_nil]; omega) ))) ?_
  clear hF hS; rintro _ _ _ a w ⟨_, _, rfl, rfl, ⟨p8, rfl, rfl, rfl⟩⟩ hF hS
  replace hS : St _ [_] [_, _, _, _, _, _, _] _ := hS
  refine wpList_nil ?_
  refine hK5 _ _ ?_
  clear hK5
  refine wp_seq_k ?_; intro K7 hK7
  refine regl ?_
  refine wpl_sq hF hS (sq rfl (q_ld_blkW ty50 2 rfl rfl bQ rfl) <|
    sq_end) ?_
  clear hF hS; intro a w hF hS
  refine wpl_ef hF hS rfl (ef_storeW ty50 6 rfl rfl rfl rfl bQ (oc_cons rfl (oc_cons rfl (oc_cons (sl_one' hz_1_7) (oc_cons (row_one (hS.own _ (List.mem_of_getElem? (i := 5) rfl)).1) oc_nil)))) bQ) ?_
  clear hF hS; rintro _ _ _ a w ⟨rfl, rfl, rfl⟩ hF hS
  replace hS : St _ [_] [_, _, _, _, _, _, _] _ := hS
  refine wpList_nil ?_
  refine hK7 _ _ ?_
  clear hK7
  refine wp_ret ?_
  replace hS := hS.perm (.cons _ (.cons _ (.cons _ (.cons _ (.swap _ _ _)))))
  replace hS := hS.perm (.cons _ (.cons _ (.cons _ (.swap _ _ _))))
  replace hS := hS.perm (.cons _ (.cons _ (.swap _ _ _)))
  replace hS := hS.perm (.cons _ (.swap _ _ _))
  replace hS := hS.perm (.swap _ _ _)
  obtain ⟨zm, hzm, hS⟩ := St.freezeA (m := 16) (l := Mk.sidesD first en ls 0) (hS.rowEq (m' := List.length (Mk.sidesD first en ls 0)) (cs' := List.map vb (List.flatten (Mk.sidesD first en ls 0))) (by rw [Mk.sub_all]; rfl) (by rw [Mk.sub_all]; rfl)) rfl (by omega) (hb1.2)
  replace hS : St _ [_, _] [_, _, _, _, _, _] _ := hS
  replace hS := hS.zone00
  replace hS : St _ [_, _, _] [_, _, _, _, _, _] _ := hS
  obtain ⟨zu, hzu, hS⟩ := hS.union
  exact fn_ret (rs := [.cell 6 50]) rfl hF hS (vs := [_]) ⟨⟨_, _, _, _, _, _, _, rfl, List.mem_of_getElem? (i := 5) rfl, ty50, .inl ⟨rfl, bQ, rfl⟩⟩, trivial⟩ (zs' := [zu]) (hs' := []) (List.singleton_sublist.2 (by simp)) zQ (pf_of (q := ⟨(first : Int), (ls.length : Int), ((ls.take en).drop first), Mk.sidesD first en ls 0⟩) ⟨_, _, zu, rfl, Sl.mono (hzu _ (by simp)) hz_1_7, Sl.mono (hzu _ (by simp)) hzm, rfl, rfl⟩ (by unfold Mk.shown; rw [if_neg (by omega)]))
 ·refine wp_skip ?_
  refine hK5 _ _ ?_
  clear hK5
  refine wp_seq_k ?_; intro K8 hK8
  refine regl ?_
  refine wpl_sq hF hS (sq rfl (q_ld_blkW ty50 2 rfl rfl bQ rfl) <|
    sq_end) ?_
  clear hF hS; intro a w hF hS
  refine wpl_ef hF hS rfl (ef_storeW ty50 3 rfl rfl rfl rfl bQ (oc_cons rfl (oc_cons rfl (oc_cons (sl_one' hz_1_7) (oc_cons (row_one (hS.own _ (List.mem_of_getElem? (i := 1) rfl)).1) oc_nil)))) bQ) ?_
  clear hF hS; rintro _ _ _ a w ⟨rfl, rfl, rfl⟩ hF hS
  replace hS : St _ [_] [_, _, _, _, _, _, _] _ := hS
  refine wpList_nil ?_
  refine hK8 _ _ ?_
  clear hK8
  refine wp_ret ?_
  replace hS := hS.perm (.swap _ _ _)
  obtain ⟨zm, hzm, hS⟩ := St.freezeA (m := 16) (l := ([] : List Mk.Dg)) (hS.rowEq (m' := List.length (([] : List Mk.Dg))) (cs' := List.map vb (List.flatten (([] : List Mk.Dg)))) (rfl) (rfl)) rfl (by decide) (fun _ h => by cases h)
  replace hS : St _ [_, _] [_, _, _, _, _, _] _ := hS
  replace hS := hS.zone00
  replace hS : St _ [_, _, _] [_, _, _, _, _, _] _ := hS
  obtain ⟨zu, hzu, hS⟩ := hS.union
  exact fn_ret (rs := [.cell 6 50]) rfl hF hS (vs := [_]) ⟨⟨_, _, _, _, _, _, _, rfl, List.mem_of_getElem? (i := 2) rfl, ty50, .inl ⟨rfl, bQ, rfl⟩⟩, trivial⟩ (zs' := [zu]) (hs' := []) (List.singleton_sublist.2 (by simp)) zQ (pf_of (q := ⟨(first : Int), (ls.length : Int), ((ls.take en).drop first), []⟩) ⟨_, _, zu, rfl, Sl.mono (hzu _ (by simp)) hz_1_7, Sl.mono (hzu _ (by simp)) hzm, rfl, rfl⟩ (by unfold Mk.shown; rw [if_pos (by omega)]))
end Go.Proofs.YtdojfnigffeblaaDoor
