/- A text of a proof over this seat: walks over the program's functions and the plain laws that they need. -/
import Derived.Test.YtlopocmpcmkdkaaDoorSs6
import Derived.Test.YtlopocmpcmkdkaaDoorSiA
import Derived.Test.YtlopocmpcmkdkaaDoorFwB
import Derived.Test.YtlopocmpcmkdkaaDoorFwD
import Derived.Test.YtlopocmpcmkdkaaDoorFwC
set_option linter.all false
namespace Go.Proofs.YtlopocmpcmkdkaaDoor
open Go.Fw
theorem ty48 : Tf Tryd.prog 48 (.slice 23) 1 24 (Value.slice none 0 0) := ⟨Tryd.underlying48, by kernel_rfl⟩
theorem ty49 : Tf Tryd.prog 49 (.slice 48) 1 24 (Value.slice none 0 0) := ⟨Tryd.underlying49, by kernel_rfl⟩
theorem fn21 : FnOk Tryd.prog 21 := ⟨_, Tryd.func21, rfl, by kernel_rfl⟩
theorem fn22 : FnOk Tryd.prog 22 := ⟨_, Tryd.func22, rfl, by kernel_rfl⟩
theorem fn23 : FnOk Tryd.prog 23 := ⟨_, Tryd.func23, rfl, by kernel_rfl⟩
theorem fn24 : FnOk Tryd.prog 24 := ⟨_, Tryd.func24, rfl, by kernel_rfl⟩
theorem fn43 : FnOk Tryd.prog 43 := ⟨_, Tryd.func43, rfl, by kernel_rfl⟩
theorem fn46 : FnOk Tryd.prog 46 := ⟨_, Tryd.func46, rfl, by kernel_rfl⟩

attribute [local irreducible] Sha.sum Sha.mac Sha.ofD Wi.int Wi.ints Wi.bytes Sha.inp Si.leaf Si.nodeD

set_option maxRecDepth 4000 in
set_option maxHeartbeats 2000000 in
theorem mknodes_ct (s : List UInt8) (w : World) : Ct Tryd.prog 22 [vs s] w (fun r zs hs => ∃ e1 e2 e3 bm es ec, r = .func (.func 44) (List.nil : List Value).toArray [Value.pointer (some ⟨e1, 0, none⟩), Value.pointer (some ⟨e2, 0, none⟩), Value.pointer (some ⟨e3, 0, none⟩)].toArray ∧ zs = [] ∧ Si.MOk s es ∧ hs = [.blk e1 73 [.map (some bm)], .mp bm es ec, .blk e2 9 [vs s], .blk e3 45 [.func (.func 44) (List.nil : List Value).toArray [Value.pointer (some ⟨e1, 0, none⟩), Value.pointer (some ⟨e2, 0, none⟩), Value.pointer (some ⟨e3, 0, none⟩)].toArray]]) := by
 refine fn_enter Tryd.func22 rfl Tryd.ntmps22 (Nat.le_of_ble_eq_true rfl) fun a hF hS => ?_
 refine wp_seq_k ?_; intro K1 hK1
 refine regl ?_
 refine wpl_ef hF hS rfl (ef_box1 rfl rfl) ?_
 clear hF hS; rintro _ _ _ a w ⟨b1, rfl, rfl, rfl⟩ hF hS
 refine wpl_sq hF hS (sq rfl (q_assign rfl) <|
   sq_end) ?_
 clear hF hS; intro a w hF hS
 refine wpList_nil ?_
 refine hK1 _ _ ?_
 clear hK1
 refine wp_seq_k ?_; intro K2 hK2
 refine regl ?_
 refine wpl_ef hF hS rfl (ef_mkmap) ?_
 clear hF hS; rintro _ _ _ a w ⟨b2, rfl, rfl, rfl⟩ hF hS
 replace hS : St _ [] [_, _] _ := hS
 refine wpl_ef hF hS rfl (ef_alloc1 ty73 (by rfl)) ?_
 clear hF hS; rintro _ _ _ a w ⟨b4, rfl, rfl, rfl⟩ hF hS
 refine wpl_ef hF hS rfl (ef_store1 ty73 0 rfl rfl rfl rfl (by simp)) ?_
 clear hF hS; rintro _ _ _ a w ⟨rfl, rfl, rfl⟩ hF hS
 (try simp only [List.set_cons_zero, List.set_cons_succ] at hS)
 replace hS : St _ [] [_, _, _] _ := hS
 refine wpList_nil ?_
 refine hK2 _ _ ?_
 clear hK2
 refine wp_seq_k ?_; intro K3 hK3
 refine regl ?_
 refine wpl_ef hF hS rfl (ef_alloc1 ty45 (by rfl)) ?_
 clear hF hS; rintro _ _ _ a w ⟨b5, rfl, rfl, rfl⟩ hF hS
 refine wpList_nil ?_
 refine hK3 _ _ ?_
 clear hK3
 refine wp_seq_k ?_; intro K4 hK4
 refine regl ?_
 refine wpl_sq hF hS (sq rfl (q_mkf rfl rfl) <|
   sq_end) ?_
 clear hF hS; intro a w hF hS
 refine wpl_ef hF hS rfl (ef_store1 ty45 0 rfl rfl rfl rfl (by simp)) ?_
 clear hF hS; rintro _ _ _ a w ⟨rfl, rfl, rfl⟩ hF hS
 (try simp only [List.set_cons_zero, List.set_cons_succ] at hS)
 replace hS : St _ [] [_, _, _, _] _ := hS
 refine wpList_nil ?_
 refine hK4 _ _ ?_
 clear hK4
 refine wp_seq_k ?_; intro K5 hK5
 refine reg hF hS (sq rfl (q_ld_blk1 ty45 0 rfl rfl rfl rfl) <|
   sq rfl (q_assign rfl) <|
   sq_end) ?_
 clear hF hS; intro a w hF hS
 refine hK5 _ _ ?_
 clear hK5
 refine wp_ret ?_
 replace hS := hS.perm (.swap _ _ _)
 replace hS := hS.perm (.cons _ (.swap _ _ _))
 replace hS := hS.perm (.cons _ (.cons _ (.swap _ _ _)))
 exact fn_ret (rs := [.tmp 2]) rfl hF hS (vs := [_]) ⟨rfl, trivial⟩ (zs' := []) (hs' := [_, _, _, _]) sQ sQ ⟨_, _, _, _, _, _, rfl, rfl, Si.MOk.nil _, rfl⟩

set_option maxRecDepth 4000 in
set_option maxHeartbeats 2000000 in
theorem pub_ct (s : List UInt8) (h : Int) (hs9 : s.length < 1048576) (w : World) {fz1 : Nat × Nat} {bt1 : TypeId} (hg1 : w.heap[1]? = some (.cells (Sha.kc.map vw).toArray bt1 fz1)) : Ct Tryd.prog 12 [vs s, vi h] w (fun r _ _ => r = .tuple [.agg ((Si.pub s h).map vb).toArray, vi (Si.pubE s h)].toArray) := by
 refine fn_enter Tryd.func12 rfl Tryd.ntmps12 (Nat.le_of_ble_eq_true rfl) fun a hF hS => ?_
 have h16 := Si.tree_16 s h.toNat 0
 refine wp_seq_k ?_; intro K1 hK1
 refine regl ?_
 refine wpl_ef hF hS rfl (ef_allocA ty23) ?_
 clear hF hS; rintro _ _ _ a w ⟨b1, rfl, rfl, rfl⟩ hF hS
 rw [show List.replicate 16 (Value.int .u8 0) = (List.replicate 16 (0 : UInt8)).map vb from by rw [List.map_replicate] <;> rfl] at hS
 refine wpl_sq hF hS (sq rfl (q_assign rfl) <|
   sq_end) ?_
 clear hF hS; intro a w hF hS
 refine wpList_nil ?_
 refine hK1 _ _ ?_
 clear hK1
 refine wp_seq_k ?_; intro K2 hK2
 refine wp_seq_k ?_; intro K3 hK3
 refine regl ?_
 refine wpl_sq hF hS (sq rfl (q_move rfl) <|
   sq rfl (q_len_s ty9 rfl) <|
   sq rfl (q_nei rfl rfl) <|
   sq rfl (q_move rfl) <|
   sq_end) ?_
 clear hF hS; intro a w hF hS
 refine wpl_or 3 9 3 hF hS rfl rfl rfl rfl rfl (fun hg => have hg := (nd_false hg); sq_go 9 rfl rfl rfl (q_move rfl) <|
   sq_go 9 rfl rfl rfl (q_call fn21 rfl (fun w hS => svalid_ct _ w ) (fun _ _ _ h => h)) <|
   sq_go 9 rfl rfl rfl (q_not rfl) <|
   sq_end) rfl rfl ?_
 clear hF hS; intro a w hF hS
 refine wpList_nil ?_
 refine hK3 _ _ ?_
 clear hK3
 refine wp_if hF rfl (fun hc1 => ?_) (fun hc1 => ?_)
 ·(try simp only [Bool.or_eq_true, Bool.and_eq_true, Bool.or_eq_false_iff, Bool.and_eq_false_iff, decide_eq_true_eq, decide_eq_false_iff_not, Bool.not_eq_true', Bool.not_eq_false'] at hc1)
  have hok : ¬ Si.okH s h := by unfold Si.okH; simp at hc1 ⊢; omega
  refine wp_seq_k ?_; intro K4 hK4
  refine regl ?_
  refine wpl_sq hF hS (sq rfl (q_build rfl (run_build_arr ty23 ty5 (cells := (List.replicate 16 (0 : UInt8)).map vb) rfl)) <|
    sq_end) ?_
  clear hF hS; intro a w hF hS
  refine wpl_ef hF hS rfl (ef_storeW ty23 0 rfl rfl rfl rfl bQ oQ bQ) ?_
  clear hF hS; rintro _ _ _ a w ⟨rfl, rfl, rfl⟩ hF hS
  replace hS : St _ [] [_] _ := hS
  refine wpl_sq hF hS (sq rfl (q_assign rfl) <|
    sq_end) ?_
  clear hF hS; intro a w hF hS
  refine wpList_nil ?_
  refine hK4 _ _ ?_
  clear hK4
  refine wp_ret ?_
  exact fn_ret (rs := [.cell 4 23, .tmp 5]) rfl hF hS (vs := [_, _]) ⟨⟨_, _, _, _, _, _, _, rfl, List.mem_of_getElem? (i := 0) rfl, ty23, .inl ⟨rfl, bQ, rfl⟩⟩, rfl, trivial⟩ zQ zQ (by unfold Si.pub Si.pubE; first | (rw [if_neg hok, if_neg hok] <;> rfl; done) | (rw [if_pos hok, if_pos hok] <;> rfl; done))
 ·(try simp only [Bool.or_eq_true, Bool.and_eq_true, Bool.or_eq_false_iff, Bool.and_eq_false_iff, decide_eq_true_eq, decide_eq_false_iff_not, Bool.not_eq_true', Bool.not_eq_false'] at hc1)
  have hok : Si.okH s h := by unfold Si.okH; (try simp at hc1); omega
  refine wp_skip ?_
  refine hK2 _ _ ?_
  clear hK2
  refine wp_seq_k ?_; intro K5 hK5
  refine regl ?_
  refine wpl_sq hF hS (sq rfl (q_move rfl) <|
    sq_end) ?_
  clear hF hS; intro a w hF hS
  refine wpl_ef hF hS rfl (ef_call fn22 rfl (fun w hS => mknodes_ct _ w )) ?_
  clear hF hS; rintro _ _ _ a w ⟨_, _, rfl, rfl, ⟨e13, e24, e35, bm6, es7, ec8, rfl, rfl, hk9, rfl⟩⟩ hF hS
  replace hS : St _ [] [_, _, _, _, _] _ := hS
  refine wpl_sq hF hS (sq rfl (q_move rfl) <|
    sq_end) ?_
  clear hF hS; intro a w hF hS
  refine wpl_ef hF hS rfl (ef_callvx fn44 rfl rfl (List.Perm.refl _) (by exact (nodes_ct s e13 e24 e35 bm6 hs9 _ _ hg1 64 _ h.toNat 0 es7 ec8 (by have := hok.1.2; omega) (by have := hok.2; omega) (by have := hok.2; omega) (Si.Kb.root (by have := hok.2; omega)) hk9 ))) ?_
  clear hF hS; rintro _ _ _ a w ⟨_, _, rfl, rfl, ⟨es12, ec13, rfl, rfl, hk14, rfl⟩⟩ hF hS
  replace hS : St _ [] [_, _, _, _, _] _ := hS
  refine wpl_ef hF hS rfl (ef_storeW ty23 4 rfl rfl rfl rfl bQ oQ bQ) ?_
  clear hF hS; rintro _ _ _ a w ⟨rfl, rfl, rfl⟩ hF hS
  replace hS : St _ [] [_, _, _, _, _] _ := hS
  refine wpl_sq hF hS (sq rfl (q_assign rfl) <|
    sq_end) ?_
  clear hF hS; intro a w hF hS
  refine wpList_nil ?_
  refine hK5 _ _ ?_
  clear hK5
  refine wp_ret ?_
  exact fn_ret (rs := [.cell 4 23, .tmp 5]) rfl hF hS (vs := [_, _]) ⟨⟨_, _, _, _, _, _, _, rfl, List.mem_of_getElem? (i := 4) rfl, ty23, .inl ⟨rfl, bQ, rfl⟩⟩, rfl, trivial⟩ zQ zQ (by unfold Si.pub Si.pubE; first | (rw [if_neg hok, if_neg hok] <;> rfl; done) | (rw [if_pos hok, if_pos hok] <;> rfl; done))

set_option maxRecDepth 4000 in
set_option maxHeartbeats 2000000 in
theorem levels_ct (s : List UInt8) (h : Int) (hh0 : 0 ≤ h) (hh6 : h ≤ 6) (hs9 : s.length < 1048576) (w : World) {fz0 : Nat × Nat} {bt0 : TypeId} (hg0 : w.heap[0]? = some (.cells (Sha.kc.map vw).toArray bt0 fz0)) : Ct Tryd.prog 24 [vs s, vi h] w (SlR (encSl (encA 16)) (Si.levs s h.toNat (h.toNat + 1))) := by
 refine fn_enter Tryd.func24 rfl Tryd.ntmps24 (Nat.le_of_ble_eq_true rfl) fun a hF hS => ?_
 have hpw : (1 : Int) * 2 ^ (min h.toNat 64) = ((2 ^ h.toNat : Nat) : Int) := Si.pw (by omega)
 have hp6 := Si.p2_le (h := h.toNat) (l := 0) (by omega)
 rw [Nat.sub_zero] at hp6
 have hpz := Int.natCast_nonneg (2 ^ h.toNat)
 refine wp_seq_k ?_; intro K1 hK1
 refine reg hF hS (sq rfl (q_assign rfl) <|
   sq_end) ?_
 clear hF hS; intro a w hF hS
 refine hK1 _ _ ?_
 clear hK1
 refine wp_seq_k ?_; intro K2 hK2
 refine reg hF hS (sq rfl (q_assign rfl) <|
   sq_end) ?_
 clear hF hS; intro a w hF hS
 replace hS := hS.nilRow 23 16
 refine hK2 _ _ ?_
 clear hK2
 refine wp_seq_k ?_; intro K3 hK3
 refine wp_seq_k ?_; intro K4 hK4
 refine reg hF hS (sq rfl (q_assign rfl) <|
   sq_end) ?_
 clear hF hS; intro a w hF hS
 refine hK4 _ _ ?_
 clear hK4
 refine wp_block ?_
 obtain ⟨hs0, hhs0, hS⟩ : ∃ h, h = _ ∧ St _ _ h _ := ⟨_, rfl, hS⟩
 refine wp_loopx (γ := Value × Int) ((Value.slice none 0 0), 0) (fun (gg : Value × Int) => match gg with | (u, i) => [(5, u), (6, vi i)]) [(0, _), (1, _)] (fun (gg : Value × Int) => match gg with | (u, i) => (hs0.set 0 (.row u 23 16 i.toNat ((Si.lev s 0 i.toNat).flatten.map vb)))) (fun (gg : Value × Int) => match gg with | (u, i) => 0 ≤ i ∧ i ≤ ((2 ^ h.toNat : Nat) : Int)) (fun (gg : Value × Int) => match gg with | (u, i) => (((2 ^ h.toNat : Nat) : Int) - i).toNat) (hF.sub ⟨rfl, rfl, rfl, rfl, trivial⟩) (by subst hhs0; exact hS) (by exact ⟨Int.le_refl _, by omega⟩) ?_
 clear hF hS; rintro ⟨u, i⟩ a w hfact hF hS
 subst hhs0; (try dsimp only at hfact); (try dsimp only at hF); (try dsimp only at hS)
 obtain ⟨hi0, hi1⟩ := hfact
 replace hS : St _ [] [_] _ := hS
 have h16 := Si.leaf_16 s i
 refine wp_seq_k ?_; intro K5 hK5
 refine wp_seq_k ?_; intro K6 hK6
 refine reg hF hS (sq rfl (q_move rfl) <|
   sq rfl (q_move rfl) <|
   sq rfl (q_shli rfl rfl (by omega) (by omega)) <|
   sq rfl (q_lti rfl rfl) <|
   sq_end) ?_
 clear hF hS; intro a w hF hS
 refine hK6 _ _ ?_
 clear hK6
 refine wp_ifd hF rfl (fun hc1 => ?_) (fun hc1 => ?_)
 ·refine wp_skip ?_
  refine hK5 _ _ ?_
  clear hK5
  refine wp_seq_k ?_; intro K7 hK7
  refine wp_block ?_
  refine regl ?_
  refine wpl_sq hF hS (sq rfl (q_move rfl) <|
    sq rfl (q_move rfl) <|
    sq rfl (q_move rfl) <|
    sq rfl (q_call fn46 rfl (fun w hS => rleaf_ct _ _ (by first | with_reducible assumption | omega) (by first | with_reducible assumption | omega) w (hS.ext _ _ hg0)) (fun _ _ _ h => h)) <|
    sq_end) ?_
  clear hF hS; intro a w hF hS
  refine wpl_ef hF hS rfl (ef_bsliceW ty48 ty23 rfl bQ (by decide) oQ (by decide) (by decide)) ?_
  clear hF hS; rintro v2 _ _ a w ⟨rfl, rfl⟩ hF hS
  replace hS : St _ [] [_, _] _ := hS
  refine wpl_ef hF hS rfl (ef_append ty48 ty23 1 rfl rfl rfl (src_row ty48 (k := 0) rfl oQ) bQ rfl (by decide)) ?_
  clear hF hS; rintro v4 _ _ a w ⟨rfl, rfl⟩ hF hS
  replace hS : St _ [] [_, _] _ := hS
  refine wpl_sq hF hS (sq rfl (q_assign rfl) <|
    sq_end) ?_
  clear hF hS; intro a w hF hS
  refine wpList_nil ?_
  refine hK7 _ _ ?_
  clear hK7
  refine reg hF hS (sq rfl (q_move rfl) <|
    sq rfl (q_addi rfl rfl (by omega)) <|
    sq rfl (q_assign rfl) <|
    sq_end) ?_
  clear hF hS; intro a w hF hS
  replace hS := hS.keep zQ (sQ.n)
  refine ⟨(v4, i + 1), ?_, ?_, hF.sub ⟨rfl, rfl, rfl, rfl, trivial⟩, ?_⟩
  ·(try dsimp only); omega
  ·(try dsimp only); omega
  ·exact hS.rowEq (by omega) (by rw [show (i + 1).toNat = i.toNat + 1 by omega, Si.lev_flat, Int.toNat_of_nonneg hi0]; rfl)
 ·obtain rfl : i = ((2 ^ h.toNat : Nat) : Int) := by omega
  rw [Int.toNat_natCast] at hS
  refine wp_exit ?_
  refine hK3 _ _ ?_
  clear hK3
  refine wp_seq_k ?_; intro K8 hK8
  refine regl ?_
  refine wpl_sq hF hS (sq rfl (q_move rfl) <|
    sq_end) ?_
  clear hF hS; intro a w hF hS
  have hoc7 := (oc_cons (row_one (hS.own _ (List.mem_of_getElem? (i := 0) rfl)).1) oc_nil)
  refine wpl_ef hF hS rfl (ef_bsliceA ty49 ty48 rfl rfl (oc_cons (row_one (hS.own _ (List.mem_of_getElem? (i := 0) rfl)).1) oc_nil) (by decide) rfl rfl) ?_
  clear hF hS; rintro v5 _ _ a w ⟨rfl, rfl⟩ hF hS
  replace hS : St _ [] [_, _] _ := hS
  refine wpl_sq hF hS (sq rfl (q_assign rfl) <|
    sq_end) ?_
  clear hF hS; intro a w hF hS
  refine wpList_nil ?_
  replace hS := hS.perm (.swap _ _ _)
  obtain ⟨zF, hzF, hS⟩ := hS.freezeA (m := 16) (l := Si.lev s 0 (2 ^ h.toNat)) (by rw [Si.lev_len]) (by omega) (Si.lev_16 _ _ _)
  replace hS : St _ [_] [_] _ := hS
  refine hK8 _ _ ?_
  clear hK8
  refine wp_seq_k ?_; intro K9 hK9
  refine wp_seq_k ?_; intro K10 hK10
  refine reg hF hS (sq rfl (q_assign rfl) <|
    sq_end) ?_
  clear hF hS; intro a w hF hS
  refine hK10 _ _ ?_
  clear hK10
  refine wp_block ?_
  obtain ⟨hs0, hhs0, hS⟩ : ∃ h, h = _ ∧ St _ _ h _ := ⟨_, rfl, hS⟩
  obtain ⟨zs0, hzs0, hS⟩ : ∃ h, h = _ ∧ St _ h _ _ := ⟨_, rfl, hS⟩
  replace hS := hS.dupz (z := zF) (by subst hzs0; simp)
  refine wp_loopz (γ := Value × PH × List Value × Int) (v5, zF, [u], 0) (fun (gg : Value × PH × List Value × Int) => match gg with | (uo, z, vl, l) => z :: zs0) (fun (gg : Value × PH × List Value × Int) => match gg with | (uo, z, vl, l) => [(7, uo), (8, vi l)]) [(1, _)] (fun (gg : Value × PH × List Value × Int) => match gg with | (uo, z, vl, l) => (hs0.set 0 (.row uo 48 1 vl.length vl))) (fun (gg : Value × PH × List Value × Int) => match gg with | (uo, z, vl, l) => 0 ≤ l ∧ l ≤ h ∧ Sl2 (encA 16) z vl (Si.levs s h.toNat (l.toNat + 1))) (fun (gg : Value × PH × List Value × Int) => match gg with | (uo, z, vl, l) => (h - l).toNat) (hF.sub ⟨rfl, rfl, rfl, trivial⟩) (by subst hhs0; exact hS) (by exact ⟨Int.le_refl _, by omega, by rw [show (0 : Int).toNat + 1 = 1 from rfl, Si.levs_1]; exact ⟨hzF, trivial⟩⟩) ?_
  clear hF hS; rintro ⟨uo, z, vl, l⟩ a w hfact hF hS
  subst hhs0; subst hzs0; (try dsimp only at hfact); (try dsimp only at hF); (try dsimp only at hS)
  obtain ⟨hl0, hl1, h2⟩ := hfact
  replace hS : St _ [_, _] [_] _ := hS
  have hvl := h2.len
  rw [Si.levs_len] at hvl
  refine wp_seq_k ?_; intro K11 hK11
  refine wp_seq_k ?_; intro K12 hK12
  refine reg hF hS (sq rfl (q_move rfl) <|
    sq rfl (q_move rfl) <|
    sq rfl (q_lti rfl rfl) <|
    sq_end) ?_
  clear hF hS; intro a w hF hS
  refine hK12 _ _ ?_
  clear hK12
  refine wp_ifd hF rfl (fun hc2 => ?_) (fun hc2 => ?_)
  ·obtain ⟨lv, hlv, hLl⟩ := h2.get l.toNat _ (Si.levs_get? s h.toNat (l.toNat + 1) l.toNat (by omega))
   rw [show lv = vl.getD l.toNat undef by rw [List.getD_eq_getElem?_getD, hlv]; rfl] at hLl
   have hq1 := Si.lev_len s l.toNat (2 ^ (h.toNat - l.toNat))
   have hq2 := Si.p2_succ (h := h.toNat) (l := l.toNat) (by omega)
   have hq3 := Si.p2_le (h := h.toNat) (l := l.toNat) (by omega)
   have hq4 := Int.natCast_nonneg (2 ^ (h.toNat - l.toNat))
   have hq5 := Int.natCast_nonneg (2 ^ (h.toNat - (l.toNat + 1)))
   refine wp_skip ?_
   refine hK11 _ _ ?_
   clear hK11
   refine wp_seq_k ?_; intro K13 hK13
   refine wp_block ?_
   refine wp_seq_k ?_; intro K14 hK14
   refine reg hF hS (sq rfl (q_assign rfl) <|
     sq_end) ?_
   clear hF hS; intro a w hF hS
   replace hS := hS.nilRow 23 16
   refine hK14 _ _ ?_
   clear hK14
   refine wp_seq_k ?_; intro K15 hK15
   refine wp_seq_k ?_; intro K16 hK16
   refine reg hF hS (sq rfl (q_assign rfl) <|
     sq_end) ?_
   clear hF hS; intro a w hF hS
   refine hK16 _ _ ?_
   clear hK16
   refine wp_block ?_
   obtain ⟨hs0, hhs0, hS⟩ : ∃ h, h = _ ∧ St _ _ h _ := ⟨_, rfl, hS⟩
   refine wp_loopx (γ := Value × Int) ((Value.slice none 0 0), 0) (fun (gg : Value × Int) => match gg with | (un, m) => [(9, un), (10, vi (2 * m))]) [(1, _), (7, _), (8, _)] (fun (gg : Value × Int) => match gg with | (un, m) => (hs0.set 0 (.row un 23 16 m.toNat ((Si.lev s (l.toNat + 1) m.toNat).flatten.map vb)))) (fun (gg : Value × Int) => match gg with | (un, m) => 0 ≤ m ∧ m ≤ ((2 ^ (h.toNat - (l.toNat + 1)) : Nat) : Int)) (fun (gg : Value × Int) => match gg with | (un, m) => (((2 ^ (h.toNat - (l.toNat + 1)) : Nat) : Int) - m).toNat) (hF.sub ⟨rfl, rfl, rfl, rfl, rfl, trivial⟩) (by subst hhs0; exact hS) (by exact ⟨Int.le_refl _, by omega⟩) ?_
   clear hF hS; rintro ⟨un, m⟩ a w hfact hF hS
   subst hhs0; (try dsimp only at hfact); (try dsimp only at hF); (try dsimp only at hS)
   obtain ⟨hm0, hm1⟩ := hfact
   replace hS : St _ [_, _] [_, _] _ := hS
   refine wp_seq_k ?_; intro K17 hK17
   refine wp_seq_k ?_; intro K18 hK18
   refine reg hF hS (sq rfl (q_move rfl) <|
     sq rfl (q_addi rfl rfl (by omega)) <|
     sq rfl (q_move rfl) <|
     sq rfl (q_move rfl) <|
     sq rfl (q_idx_row ty49 ty48 1 rfl rfl rfl (by omega)) <|
     sq rfl (q_ld_rowV ty48 1 rfl rfl (by omega) rfl) <|
     sq rfl (q_len_sl ty48 hLl rfl) <|
     sq rfl (q_lti rfl rfl) <|
     sq_end) ?_
   clear hF hS; intro a w hF hS
   refine hK18 _ _ ?_
   clear hK18
   refine wp_ifd hF rfl (fun hc3 => ?_) (fun hc3 => ?_)
   ·have hga := Si.lev_get s l.toNat (2 ^ (h.toNat - l.toNat)) (2 * m).toNat (by omega)
    have hgb := Si.lev_get s l.toNat (2 ^ (h.toNat - l.toNat)) (2 * m + 1).toNat (by omega)
    have h16a : ((Si.lev s l.toNat (2 ^ (h.toNat - l.toNat))).getD (2 * m).toNat []).length = 16 := by rw [hga]; exact Si.tree_16 _ _ _
    have h16b : ((Si.lev s l.toNat (2 ^ (h.toNat - l.toNat))).getD (2 * m + 1).toNat []).length = 16 := by rw [hgb]; exact Si.tree_16 _ _ _
    have hnd : Si.nodeD ((Si.lev s l.toNat (2 ^ (h.toNat - l.toNat))).getD (2 * m).toNat []) ((Si.lev s l.toNat (2 ^ (h.toNat - l.toNat))).getD (2 * m + 1).toNat []) = Si.tree s (l.toNat + 1) (m.toNat : Int) := by
     rw [hga, hgb, show (((2 * m).toNat : Nat) : Int) = 2 * (m.toNat : Int) by omega, show (((2 * m + 1).toNat : Nat) : Int) = 2 * (m.toNat : Int) + 1 by omega]; rfl
    have hn16 := Si.node_16 ((Si.lev s l.toNat (2 ^ (h.toNat - l.toNat))).getD (2 * m).toNat []) ((Si.lev s l.toNat (2 ^ (h.toNat - l.toNat))).getD (2 * m + 1).toNat [])
    refine wp_skip ?_
    refine hK17 _ _ ?_
    clear hK17
    refine wp_seq_k ?_; intro K19 hK19
    refine wp_block ?_
    revert hS; revert hF; apply regJ (J := J2 (α0 := Value) (α1 := Value) 64 _ _ _ _ _) #[false, false, false, false, false, false, false, false, false, false, false, false, false, false, false, false, false, false, false, false] 20 mixed rfl rfl
    ·intro w hF hS
     refine goW_take 0 _ rfl kQ rfl hF (hS.keep sQ zQ) (q_move rfl) ?_
     clear hF; intro a hF
     refine goW_take 1 _ rfl kQ rfl hF (hS.keep sQ zQ) (q_move rfl) ?_
     clear hF; intro a hF
     refine goW_take 2 _ rfl kQ rfl hF (hS.keep sQ zQ) (q_move rfl) ?_
     clear hF; intro a hF
     refine goW_take 3 _ rfl kQ rfl hF (hS.keep sQ (sQ.n)) (q_idx_row ty49 ty48 0 rfl rfl rfl (by omega)) ?_
     clear hF; intro a hF
     refine goW_take 4 _ rfl kQ rfl hF (hS.keep sQ (sQ.n)) (q_ld_rowV ty48 0 rfl rfl (by omega) rfl) ?_
     clear hF; intro a hF
     refine goW_take 5 _ rfl kQ rfl hF (hS.keep sQ zQ) (q_move rfl) ?_
     clear hF; intro a hF
     refine goW_take 6 _ rfl kQ rfl hF (hS.keep sQ zQ) (q_idx_sl ty48 ty23 hLl rfl rfl (by omega)) ?_
     clear hF; intro a hF
     refine goW_take 7 _ rfl kQ rfl hF (hS.keep sQ zQ) (q_ld_AB ty23 hLl (.inr (by simp)) rfl rfl (by decide) (by omega)) ?_
     clear hF; intro a hF
     refine goW_take 8 _ rfl kQ rfl hF (hS.keep sQ zQ) (q_move rfl) ?_
     clear hF; intro a hF
     refine goW_take 9 _ rfl kQ rfl hF (hS.keep sQ zQ) (q_move rfl) ?_
     clear hF; intro a hF
     refine goW_take 10 _ rfl kQ rfl hF (hS.keep sQ (sQ.n)) (q_idx_row ty49 ty48 0 rfl rfl rfl (by omega)) ?_
     clear hF; intro a hF
     refine goW_take 11 _ rfl kQ rfl hF (hS.keep sQ (sQ.n)) (q_ld_rowV ty48 0 rfl rfl (by omega) rfl) ?_
     clear hF; intro a hF
     refine goW_take 12 _ rfl kQ rfl hF (hS.keep sQ zQ) (q_move rfl) ?_
     clear hF; intro a hF
     refine goW_take 13 _ rfl kQ rfl hF (hS.keep sQ zQ) (q_addi rfl rfl (by omega)) ?_
     clear hF; intro a hF
     refine goW_take 14 _ rfl kQ rfl hF (hS.keep sQ zQ) (q_idx_sl ty48 ty23 hLl rfl rfl (by omega)) ?_
     clear hF; intro a hF
     refine goW_take 15 _ rfl kQ rfl hF (hS.keep sQ zQ) (q_ld_AB ty23 hLl (.inr (by simp)) rfl rfl (by decide) (by omega)) ?_
     clear hF; intro a hF
     refine gQ 16 rfl rfl hF hS rfl (ef_qt (q_call fn43 rfl (fun w hS => srnode_ct _ _ (by first | with_reducible assumption | omega) (by first | with_reducible assumption | omega) w (hS.ext _ _ hg0)) (fun _ _ _ h => h))) ?_
     clear hF hS; rintro _ _ _ a w ⟨rfl, rfl, rfl⟩ hF hS
     refine ⟨⟨iQ, iQ, .inr (hS.keep sQ zQ), .inr (hS.keep sQ zQ), .inr (hS.keep sQ (sQ.n)), .inr (hS.keep sQ (sQ.n)), .inr (hS.keep sQ zQ), .inr (hS.keep sQ zQ), iQ, iQ, .inr (hS.keep sQ zQ), .inr (hS.keep sQ (sQ.n)), .inr (hS.keep sQ (sQ.n)), .inr (hS.keep sQ zQ), .inr (hS.keep sQ zQ), .inr (hS.keep sQ zQ), trivial⟩, ?_⟩
     refine gQ 17 rfl rfl hF hS rfl (ef_bsliceW ty48 ty23 rfl bQ (by decide) oQ (by decide) (by decide)) ?_
     clear hF hS; rintro v_14_17 _ _ a w ⟨rfl, rfl⟩ hF hS
     refine ⟨⟨iQ, iQ, .inr (hS.keep sQ zQ), .inr (hS.keep sQ zQ), .inr (hS.keep sQ (sQ.n.n)), .inr (hS.keep sQ (sQ.n.n)), .inr (hS.keep sQ zQ), .inr (hS.keep sQ zQ), iQ, iQ, .inr (hS.keep sQ zQ), .inr (hS.keep sQ (sQ.n.n)), .inr (hS.keep sQ (sQ.n.n)), .inr (hS.keep sQ zQ), .inr (hS.keep sQ zQ), .inr (hS.keep sQ zQ), trivial⟩, ?_⟩
     refine gQ 18 rfl rfl hF hS rfl (ef_append ty48 ty23 1 rfl rfl rfl (src_row ty48 (k := 0) rfl oQ) bQ rfl (by decide)) ?_
     clear hF hS; rintro v_14_18 _ _ a w ⟨rfl, rfl⟩ hF hS
     refine ⟨⟨iQ, iQ, .inr (hS.keep sQ zQ), .inr (hS.keep sQ zQ), .inr (hS.keep sQ (sQ.n.n)), .inr (hS.keep sQ (sQ.n.n)), .inr (hS.keep sQ zQ), .inr (hS.keep sQ zQ), iQ, iQ, .inr (hS.keep sQ zQ), .inr (hS.keep sQ (sQ.n.n)), .inr (hS.keep sQ (sQ.n.n)), .inr (hS.keep sQ zQ), .inr (hS.keep sQ zQ), iQ, trivial⟩, ?_⟩
     refine goW_take 19 _ rfl kQ rfl hF (hS.keep sQ zQ) (q_assign rfl) ?_
     clear hF; intro a hF
     exact goW_done kQ (j2_mk v_14_17 v_14_18 (trivial) (hF.sub (L' := [(1, _), (7, _), (8, _), (9, _), (10, _)]) ⟨rfl, rfl, rfl, rfl, rfl, trivial⟩) hS)
    rintro a w ⟨v_14_17, v_14_18, -, hF, hS⟩
    (try dsimp only at hF); (try dsimp only at hS)
    refine hK19 _ _ ?_
    clear hK19
    refine reg hF hS (sq rfl (q_move rfl) <|
      sq rfl (q_addi rfl rfl (by omega)) <|
      sq rfl (q_assign rfl) <|
      sq_end) ?_
    clear hF hS; intro a w hF hS
    replace hS := hS.keep sQ (sQ.n)
    refine ⟨(v_14_18, m + 1), ?_, ?_, hF.sub ⟨rfl, (by rw [show 2 * (m + 1) = 2 * m + 2 by omega]; rfl), rfl, rfl, rfl, trivial⟩, ?_⟩
    ·(try dsimp only); omega
    ·(try dsimp only); omega
    ·rw [hnd] at hS; exact hS.rowEq (by omega) (by rw [show (m + 1).toNat = m.toNat + 1 by omega, Si.lev_flat])
   ·obtain rfl : m = ((2 ^ (h.toNat - (l.toNat + 1)) : Nat) : Int) := by omega
    rw [Int.toNat_natCast] at hS
    refine wp_exit ?_
    refine hK15 _ _ ?_
    clear hK15
    refine regl ?_
    refine wpl_sq hF hS (sq rfl (q_move rfl) <|
      sq rfl (q_move rfl) <|
      sq_end) ?_
    clear hF hS; intro a w hF hS
    have hoc11 := (oc_cons (row_one (hS.own _ (List.mem_of_getElem? (i := 0) rfl)).1) oc_nil)
    refine wpl_ef hF hS rfl (ef_bsliceA ty49 ty48 rfl rfl (oc_cons (row_one (hS.own _ (List.mem_of_getElem? (i := 0) rfl)).1) oc_nil) (by decide) rfl rfl) ?_
    clear hF hS; rintro v9 _ _ a w ⟨rfl, rfl⟩ hF hS
    replace hS : St _ [_, _] [_, _, _] _ := hS
    refine wpl_ef hF hS rfl (ef_append ty49 ty48 2 rfl rfl rfl (src_row ty49 (k := 0) rfl hoc11) bQ rfl (by decide)) ?_
    clear hF hS; rintro v12 _ _ a w ⟨rfl, rfl⟩ hF hS
    replace hS : St _ [_, _] [_, _, _] _ := hS
    refine wpl_sq hF hS (sq rfl (q_assign rfl) <|
      sq_end) ?_
    clear hF hS; intro a w hF hS
    refine wpList_nil ?_
    refine hK13 _ _ ?_
    clear hK13
    refine reg hF hS (sq rfl (q_move rfl) <|
      sq rfl (q_addi rfl rfl (by omega)) <|
      sq rfl (q_assign rfl) <|
      sq_end) ?_
    clear hF hS; intro a w hF hS
    replace hS := hS.perm (.swap _ _ _)
    obtain ⟨zb, hzb, hS⟩ := hS.freezeA (m := 16) (l := Si.lev s (l.toNat + 1) (2 ^ (h.toNat - (l.toNat + 1)))) (by rw [Si.lev_len]) (by omega) (Si.lev_16 _ _ _)
    obtain ⟨zu, hzu, hS⟩ := hS.union
    replace hS := hS.keep (sQ.n.n.k) (sQ.n)
    refine ⟨(v12, zu, vl ++ [un], l + 1), ?_, ?_, hF.sub ⟨rfl, rfl, rfl, trivial⟩, ?_⟩
    ·(try dsimp only); omega
    ·refine ⟨by omega, by omega, ?_⟩
     rw [show (l + 1).toNat = l.toNat + 1 by omega, Si.levs_succ]
     exact (h2.mono (hzu z (by simp))).snoc (hzb.mono (hzu zb (by simp)))
    ·dsimp only; rw [List.length_append]; exact hS
  ·have hlh : l = h := by omega
   rw [hlh] at h2
   refine wp_exit ?_
   refine hK9 _ _ ?_
   clear hK9
   refine wp_seq_k ?_; intro K20 hK20
   refine reg hF hS (sq rfl (q_move rfl) <|
     sq rfl (q_assign rfl) <|
     sq_end) ?_
   clear hF hS; intro a w hF hS
   refine hK20 _ _ ?_
   clear hK20
   refine wp_ret ?_
   obtain ⟨zr, hzr, hS⟩ := St.freezeSl (E := encA 16) hS (z' := z) (by simp) h2.len (by omega) h2
   exact fn_ret (rs := [.tmp 4]) rfl hF hS (vs := [_]) ⟨rfl, trivial⟩ (zs' := [zr]) (hs' := []) (List.singleton_sublist.2 (by simp)) zQ ⟨zr, hzr, rfl, rfl⟩

set_option maxRecDepth 4000 in
set_option maxHeartbeats 2000000 in
theorem rpub_ct (s : List UInt8) (h : Int) (hs9 : s.length < 1048576) (w : World) {fz0 : Nat × Nat} {bt0 : TypeId} (hg0 : w.heap[0]? = some (.cells (Sha.kc.map vw).toArray bt0 fz0)) : Ct Tryd.prog 13 [vs s, vi h] w (fun r _ _ => r = .tuple [.agg ((Si.pub s h).map vb).toArray, vi (Si.pubE s h)].toArray) := by
 refine fn_enter Tryd.func13 rfl Tryd.ntmps13 (Nat.le_of_ble_eq_true rfl) fun a hF hS => ?_
 have h16 := Si.tree_16 s h.toNat 0
 refine wp_seq_k ?_; intro K1 hK1
 refine regl ?_
 refine wpl_ef hF hS rfl (ef_allocA ty23) ?_
 clear hF hS; rintro _ _ _ a w ⟨b1, rfl, rfl, rfl⟩ hF hS
 rw [show List.replicate 16 (Value.int .u8 0) = (List.replicate 16 (0 : UInt8)).map vb from by rw [List.map_replicate] <;> rfl] at hS
 refine wpl_sq hF hS (sq rfl (q_assign rfl) <|
   sq_end) ?_
 clear hF hS; intro a w hF hS
 refine wpList_nil ?_
 refine hK1 _ _ ?_
 clear hK1
 refine wp_seq_k ?_; intro K2 hK2
 refine reg hF hS (sq rfl (q_move rfl) <|
   sq rfl (q_move rfl) <|
   sq rfl (q_call fn23 rfl (fun w hS => sfits_ct _ _ w ) (fun _ _ _ h => h)) <|
   sq rfl (q_assign rfl) <|
   sq_end) ?_
 clear hF hS; intro a w hF hS
 refine hK2 _ _ ?_
 clear hK2
 refine wp_seq_k ?_; intro K3 hK3
 refine wp_seq_k ?_; intro K4 hK4
 refine reg hF hS (sq rfl (q_move rfl) <|
   sq rfl (q_not rfl) <|
   sq_end) ?_
 clear hF hS; intro a w hF hS
 refine hK4 _ _ ?_
 clear hK4
 refine wp_if hF rfl (fun hc1 => ?_) (fun hc1 => ?_)
 ·have hok : ¬ Si.okH s h := by unfold Si.okH; simp at hc1 ⊢; omega
  refine wp_seq_k ?_; intro K5 hK5
  refine regl ?_
  refine wpl_sq hF hS (sq rfl (q_build rfl (run_build_arr ty23 ty5 (cells := (List.replicate 16 (0 : UInt8)).map vb) rfl)) <|
    sq_end) ?_
  clear hF hS; intro a w hF hS
  refine wpl_ef hF hS rfl (ef_storeW ty23 0 rfl rfl rfl rfl bQ oQ bQ) ?_
  clear hF hS; rintro _ _ _ a w ⟨rfl, rfl, rfl⟩ hF hS
  replace hS : St _ [] [_] _ := hS
  refine wpl_sq hF hS (sq rfl (q_assign rfl) <|
    sq_end) ?_
  clear hF hS; intro a w hF hS
  refine wpList_nil ?_
  refine hK5 _ _ ?_
  clear hK5
  refine wp_ret ?_
  exact fn_ret (rs := [.cell 4 23, .tmp 5]) rfl hF hS (vs := [_, _]) ⟨⟨_, _, _, _, _, _, _, rfl, List.mem_of_getElem? (i := 0) rfl, ty23, .inl ⟨rfl, bQ, rfl⟩⟩, rfl, trivial⟩ zQ zQ (by unfold Si.pub Si.pubE; first | (rw [if_neg hok, if_neg hok] <;> rfl; done) | (rw [if_pos hok, if_pos hok, ← hgt] <;> rfl; done))
 ·have hok : Si.okH s h := by unfold Si.okH; (try simp at hc1); omega
  have hok1 := hok.1.2
  have hok2 := hok.2
  have hlg := Si.levs_get s h.toNat (h.toNat + 1) h.toNat (by omega)
  have hll := Si.levs_len s h.toNat (h.toNat + 1)
  have hl1 : ((Si.levs s h.toNat (h.toNat + 1)).getD h.toNat []).length = 1 := by rw [hlg, Si.lev_len, Nat.sub_self]
  have hgt : ((Si.levs s h.toNat (h.toNat + 1)).getD h.toNat []).getD (0 : Int).toNat [] = Si.tree s h.toNat 0 := by rw [hlg, show (0 : Int).toNat = 0 from rfl, Si.lev_get _ _ _ _ Si.p2_pos]; rfl
  have hg16 : (((Si.levs s h.toNat (h.toNat + 1)).getD h.toNat []).getD (0 : Int).toNat []).length = 16 := by rw [hgt]; exact h16
  refine wp_skip ?_
  refine hK3 _ _ ?_
  clear hK3
  refine wp_seq_k ?_; intro K6 hK6
  refine regl ?_
  refine wpl_sq hF hS (sq rfl (q_move rfl) <|
    sq rfl (q_move rfl) <|
    sq_end) ?_
  clear hF hS; intro a w hF hS
  refine wpl_ef hF hS rfl (ef_call fn24 rfl (fun w hS => levels_ct _ _ hok1 hok2 hs9 w (hS.ext _ _ hg0))) ?_
  clear hF hS; rintro v2 _ _ a w ⟨_, _, rfl, rfl, ⟨z3, hz4, rfl, rfl⟩⟩ hF hS
  replace hS : St _ [_] [_] _ := hS
  refine wpl_sq hF hS (sq rfl (q_move rfl) <|
    sq rfl (q_idx_sl ty49 ty48 hz4 rfl rfl (by omega)) <|
    sq rfl (q_ld_Sl ty48 hz4 (.inr (by simp)) rfl rfl (by omega)) <|
    sq rfl (q_idx_sl ty48 ty23 (elemV_sl hz4 (by omega)) rfl rfl (by omega)) <|
    sq rfl (q_ld_AB ty23 (elemV_sl hz4 (by omega)) (.inr (by simp)) rfl rfl (by decide) (by omega)) <|
    sq_end) ?_
  clear hF hS; intro a w hF hS
  refine wpl_ef hF hS rfl (ef_storeW ty23 0 rfl rfl rfl rfl bQ oQ bQ) ?_
  clear hF hS; rintro _ _ _ a w ⟨rfl, rfl, rfl⟩ hF hS
  replace hS : St _ [_] [_] _ := hS
  refine wpl_sq hF hS (sq rfl (q_assign rfl) <|
    sq_end) ?_
  clear hF hS; intro a w hF hS
  refine wpList_nil ?_
  refine hK6 _ _ ?_
  clear hK6
  refine wp_ret ?_
  exact fn_ret (rs := [.cell 4 23, .tmp 5]) rfl hF hS (vs := [_, _]) ⟨⟨_, _, _, _, _, _, _, rfl, List.mem_of_getElem? (i := 0) rfl, ty23, .inl ⟨rfl, bQ, rfl⟩⟩, rfl, trivial⟩ zQ zQ (by unfold Si.pub Si.pubE; first | (rw [if_neg hok, if_neg hok] <;> rfl; done) | (rw [if_pos hok, if_pos hok, ← hgt] <;> rfl; done))

set_option maxRecDepth 4000 in
set_option maxHeartbeats 2000000 in
theorem sdigest_ct (p : List UInt8) (n : Int) (m : List UInt8) (hp6 : p.length = 16) (hn9 : -9223372036854775808 ≤ n ∧ n ≤ 9223372036854775807) (hm9 : m.length < 1048576) (w : World) {fz1 : Nat × Nat} {bt1 : TypeId} (hg1 : w.heap[1]? = some (.cells (Sha.kc.map vw).toArray bt1 fz1)) : Ct Tryd.prog 16 [.agg ((p).map vb).toArray, vi n, vs m] w (fun r _ _ => r = .agg ((Si.dig p n m).map vb).toArray) := by
 refine fn_enter Tryd.func16 rfl Tryd.ntmps16 (Nat.le_of_ble_eq_true rfl) fun a hF hS => ?_
 have hil := Wi.int_len9 n
 have ho5 := Sha.ofD_len 5 [p, Wi.int n, m]
 refine wp_seq_k ?_; intro K1 hK1
 refine regl ?_
 refine wpl_ef hF hS rfl (ef_boxA rfl) ?_
 clear hF hS; rintro _ _ _ a w ⟨b1, rfl, rfl, rfl⟩ hF hS
 refine wpl_ef hF hS rfl (ef_allocA ty23) ?_
 clear hF hS; rintro _ _ _ a w ⟨b2, rfl, rfl, rfl⟩ hF hS
 rw [show List.replicate 16 (Value.int .u8 0) = (List.replicate 16 (0 : UInt8)).map vb from by rw [List.map_replicate] <;> rfl] at hS
 refine wpList_nil ?_
 refine hK1 _ _ ?_
 clear hK1
 refine wp_seq_k ?_; intro K2 hK2
 revert hS; revert hF; apply regJ (J := J2 (α0 := Value) (α1 := Value) 15 _ _ _ _ _) #[false, false, false, false, false, false, false, false, false] 9 mixed rfl rfl
 ·intro w hF hS
  refine goW_take 0 _ rfl kQ rfl hF (hS.keep sQ (sQ.n)) (q_sla ty23 ty5 rfl) ?_
  clear hF; intro a hF
  refine goW_take 1 _ rfl kQ rfl hF (hS.keep sQ (sQ.n)) (q_b2s_blkM ty52 ty9 ty5 0 rfl rfl bQ) ?_
  clear hF; intro a hF
  refine goW_take 2 _ rfl kQ rfl hF (hS.keep sQ zQ) (q_move rfl) ?_
  clear hF; intro a hF
  refine goW_take 5 _ rfl kQ rfl hF (hS.keep sQ zQ) (q_move rfl) ?_
  clear hF; intro a hF
  refine gQ 3 rfl rfl hF hS rfl (ef_call fn26 rfl (fun w hS => wint_ct _ w )) ?_
  clear hF hS; rintro v_1_3 _ _ a w ⟨_, _, rfl, rfl, rfl, rfl⟩ hF hS
  refine ⟨⟨.inr hS.k0, iQ, .inr (hS.k1 (sQ.n.n)), .inr (hS.k1 (sQ.n.n)), trivial⟩, ?_⟩
  refine goW_take 4 _ rfl kQ rfl hF (hS.keep sQ (zQ.k)) (q_b2s_row ty52 ty9 ty5 0 rfl rfl) ?_
  clear hF; intro a hF
  refine gQ 6 rfl rfl hF hS rfl (ef_bsliceA ty66 ty9 rfl rfl oQ (by decide) rfl rfl) ?_
  clear hF hS; rintro v_1_6 _ _ a w ⟨rfl, rfl⟩ hF hS
  refine ⟨⟨iQ, iQ, iQ, iQ, iQ, trivial⟩, ?_⟩
  refine gQ 7 rfl rfl hF hS rfl (ef_qt (q_call fn34 rfl (fun w hS => of_ct _ _ _ (by simp; omega) (by simp) w (own_slV (f := vs) (xs := [p, Wi.int n, m]) (hS.own _ (List.mem_of_getElem? (i := 0) rfl)).1 (by simp; omega) rfl (by decide)) (hS.ext _ _ hg1)) (fun _ _ _ h => h))) ?_
  clear hF hS; rintro _ _ _ a w ⟨rfl, rfl, rfl⟩ hF hS
  refine ⟨⟨iQ, iQ, iQ, iQ, iQ, trivial⟩, ?_⟩
  refine gQ 8 rfl rfl hF hS rfl (ef_storeW ty23 2 rfl rfl rfl rfl bQ oQ bQ) ?_
  clear hF hS; rintro _ _ _ a w ⟨rfl, rfl, rfl⟩ hF hS
  refine ⟨⟨iQ, iQ, iQ, iQ, iQ, trivial⟩, ?_⟩
  exact goW_done kQ (j2_mk v_1_3 v_1_6 (trivial) (hF.sub (L' := [(6, _)]) ⟨rfl, trivial⟩) hS)
 rintro a w ⟨v_1_3, v_1_6, -, hF, hS⟩
 (try dsimp only at hF); (try dsimp only at hS)
 refine hK2 _ _ ?_
 clear hK2
 refine wp_ret ?_
 exact fn_ret (rs := [.cell 6 23]) rfl hF hS (vs := [_]) ⟨⟨_, _, _, _, _, _, _, rfl, List.mem_of_getElem? (i := 2) rfl, ty23, .inl ⟨rfl, bQ, rfl⟩⟩, trivial⟩ zQ zQ (rfl)

set_option maxRecDepth 4000 in
set_option maxHeartbeats 2000000 in
theorem srdigest_ct (p : List UInt8) (n : Int) (m : List UInt8) (hp6 : p.length = 16) (hn9 : -9223372036854775808 ≤ n ∧ n ≤ 9223372036854775807) (hm9 : m.length < 1048576) (w : World) {fz0 : Nat × Nat} {bt0 : TypeId} (hg0 : w.heap[0]? = some (.cells (Sha.kc.map vw).toArray bt0 fz0)) : Ct Tryd.prog 17 [.agg ((p).map vb).toArray, vi n, vs m] w (fun r _ _ => r = .agg ((Si.dig p n m).map vb).toArray) := by
 refine fn_enter Tryd.func17 rfl Tryd.ntmps17 (Nat.le_of_ble_eq_true rfl) fun a hF hS => ?_
 have hil := Wi.int_len9 n
 have ho5 := Sha.ofD_len 5 [p, Wi.int n, m]
 refine wp_seq_k ?_; intro K1 hK1
 refine regl ?_
 refine wpl_ef hF hS rfl (ef_boxA rfl) ?_
 clear hF hS; rintro _ _ _ a w ⟨b1, rfl, rfl, rfl⟩ hF hS
 refine wpl_ef hF hS rfl (ef_allocA ty23) ?_
 clear hF hS; rintro _ _ _ a w ⟨b2, rfl, rfl, rfl⟩ hF hS
 rw [show List.replicate 16 (Value.int .u8 0) = (List.replicate 16 (0 : UInt8)).map vb from by rw [List.map_replicate] <;> rfl] at hS
 refine wpList_nil ?_
 refine hK1 _ _ ?_
 clear hK1
 refine wp_seq_k ?_; intro K2 hK2
 refine regl ?_
 refine wpl_sq hF hS (sq rfl (q_ld_blkW ty23 1 rfl rfl bQ rfl) <|
   sq rfl (q_call fn31 rfl (fun w hS => rtext_ct _ (by first | with_reducible assumption | omega | (simp; omega)) w ) (fun _ _ _ h => h)) <|
   sq rfl (q_move rfl) <|
   sq_end) ?_
 clear hF hS; intro a w hF hS
 refine wpl_ef hF hS rfl (ef_call fn30 rfl (fun w hS => rint_ct _ (by omega) w )) ?_
 clear hF hS; rintro v3 _ _ a w ⟨_, _, rfl, rfl, rfl, rfl⟩ hF hS
 replace hS : St _ [] [_, _, _] _ := hS
 refine wpl_sq hF hS (sq rfl (q_b2s_row ty52 ty9 ty5 0 rfl rfl) <|
   sq rfl (q_move rfl) <|
   sq_end) ?_
 clear hF hS; intro a w hF hS
 refine wpl_ef hF hS rfl (ef_bsliceA ty66 ty9 rfl rfl oQ (by decide) rfl rfl) ?_
 clear hF hS; rintro v5 _ _ a w ⟨rfl, rfl⟩ hF hS
 replace hS : St _ [] [_, _, _, _] _ := hS
 refine wpl_sq hF hS (sq rfl (q_call fn35 rfl (fun w hS => rof_ct _ _ _ (by simp; omega) (by simp) w (own_slV (f := vs) (xs := [p, Wi.int n, m]) (hS.own _ (List.mem_of_getElem? (i := 0) rfl)).1 (by simp; omega) rfl (by decide)) (hS.ext _ _ hg0)) (fun _ _ _ h => h)) <|
   sq_end) ?_
 clear hF hS; intro a w hF hS
 refine wpl_ef hF hS rfl (ef_storeW ty23 2 rfl rfl rfl rfl bQ oQ bQ) ?_
 clear hF hS; rintro _ _ _ a w ⟨rfl, rfl, rfl⟩ hF hS
 replace hS : St _ [] [_, _, _, _] _ := hS
 refine wpList_nil ?_
 refine hK2 _ _ ?_
 clear hK2
 refine wp_ret ?_
 exact fn_ret (rs := [.cell 6 23]) rfl hF hS (vs := [_]) ⟨⟨_, _, _, _, _, _, _, rfl, List.mem_of_getElem? (i := 2) rfl, ty23, .inl ⟨rfl, bQ, rfl⟩⟩, trivial⟩ zQ zQ (rfl)
end Go.Proofs.YtlopocmpcmkdkaaDoor
