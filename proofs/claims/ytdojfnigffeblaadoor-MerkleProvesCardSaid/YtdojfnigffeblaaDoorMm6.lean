/- A text of a proof over this seat: walks over the program's functions and the plain laws that they need. -/
import Derived.Test.YtdojfnigffeblaaDoorMm5
import Derived.Test.YtdojfnigffeblaaDoorMkA
import Derived.Test.YtdojfnigffeblaaDoorFwB
set_option linter.all false
namespace Go.Proofs.YtdojfnigffeblaaDoor
open Go.Fw
theorem fn35 : FnOk Tryd.prog 35 := ⟨_, Tryd.func35, rfl, by kernel_rfl⟩
theorem fn56 : FnOk Tryd.prog 56 := ⟨_, Tryd.func56, rfl, by kernel_rfl⟩
theorem fn57 : FnOk Tryd.prog 57 := ⟨_, Tryd.func57, rfl, by kernel_rfl⟩
theorem fn58 : FnOk Tryd.prog 58 := ⟨_, Tryd.func58, rfl, by kernel_rfl⟩
theorem fn59 : FnOk Tryd.prog 59 := ⟨_, Tryd.func59, rfl, by kernel_rfl⟩

attribute [local irreducible] Sha.sum Sha.mac Sha.ofD Wi.int Wi.ints Wi.bytes Sha.inp Mk.half Lib.compareBytes Mk.frm

set_option maxRecDepth 4000 in
set_option maxHeartbeats 2000000 in
theorem prove_ct (v : Value) (ls : List Mk.Lf) (k : List UInt8) (w : World) (hb : Sl encF (ph w) v ls) {fz1 : Nat × Nat} {bt1 : TypeId} (hg1 : w.heap[2]? = some (.cells (Sha.kc.map vw).toArray bt1 fz1)) : Ct Tryd.prog 22 [v, vs k] w (PfE (Mk.provE ls k).1 (Mk.provE ls k).2) := by
 refine fn_enter Tryd.func22 rfl Tryd.ntmps22 (Nat.le_of_ble_eq_true rfl) fun a hF hS => ?_
 have hbl := hb.1
 refine wp_seq_k ?_; intro K1 hK1
 refine regl ?_
 refine wpl_ef hF hS rfl (ef_allocA ty50) ?_
 clear hF hS; rintro _ _ _ a w ⟨b1, rfl, rfl, rfl⟩ hF hS
 refine wpl_sq hF hS (sq rfl (q_assign rfl) <|
   sq_end) ?_
 clear hF hS; intro a w hF hS
 refine wpList_nil ?_
 refine hK1 _ _ ?_
 clear hK1
 refine wp_seq_k ?_; intro K2 hK2
 refine wp_seq_k ?_; intro K3 hK3
 refine reg hF hS (sq rfl (q_move rfl) <|
   sq rfl (q_call fn15 rfl (fun w hS => valid_ct _ _ w (Sl.mono (hS.le zin0) hb)) (fun _ _ _ h => h)) <|
   sq rfl (q_assign rfl) <|
   sq_end) ?_
 clear hF hS; intro a w hF hS
 refine hK3 _ _ ?_
 clear hK3
 refine wp_seq_k ?_; intro K4 hK4
 refine reg hF hS (sq rfl (q_move rfl) <|
   sq rfl (q_nei rfl rfl) <|
   sq_end) ?_
 clear hF hS; intro a w hF hS
 refine hK4 _ _ ?_
 clear hK4
 refine wp_ifn hF rfl (fun hc1 => ?_) (fun hc1 => ?_)
 ·have hv0 : ¬ Mk.vE ls = 0 := by simpa using hc1
  refine wp_seq_k ?_; intro K5 hK5
  refine regl ?_
  refine wpl_sq hF hS (sq rfl (q_buildP (places := [(0, 1), (1, 1), (2, 1), (3, 1)]) (cells := [.int .i64 0, .int .i64 0, .slice none 0 0, .slice none 0 0]) ty50 kQ rfl (by rfl)) <|
    sq rfl (q_move rfl) <|
    sq_end) ?_
  clear hF hS; intro a w hF hS
  refine wpl_ef hF hS rfl (ef_storeW ty50 0 rfl rfl rfl rfl bQ (oc_cons rfl (oc_cons rfl (oc_cons rfl (oc_cons rfl oc_nil)))) bQ) ?_
  clear hF hS; rintro _ _ _ a w ⟨rfl, rfl, rfl⟩ hF hS
  replace hS : St _ [] [_] _ := hS
  refine wpl_sq hF hS (sq rfl (q_assign rfl) <|
    sq_end) ?_
  clear hF hS; intro a w hF hS
  refine wpList_nil ?_
  refine hK5 _ _ ?_
  clear hK5
  refine wp_ret ?_
  replace hS := hS.zone00
  replace hS : St _ [_] [_] _ := hS
  obtain ⟨zu, hzu, hS⟩ := hS.union
  exact fn_ret (rs := [.cell 4 50, .tmp 5]) rfl hF hS (vs := [_, _]) ⟨⟨_, _, _, _, _, _, _, rfl, List.mem_of_getElem? (i := 0) rfl, ty50, .inl ⟨rfl, bQ, rfl⟩⟩, rfl, trivial⟩ (zs' := [zu]) (hs' := []) (List.singleton_sublist.2 (by simp)) zQ (pe_of (q := Mk.pf0) ⟨_, _, zu, rfl, sl_nil, sl_nil, rfl, rfl⟩ (by rw [Mk.provE_e hv0]) (by rw [Mk.provE_e hv0]))
 ·have hv0 : Mk.vE ls = 0 := by simpa using hc1
  have hva := Mk.vE_asc hv0
  have hx9 : ∀ x ∈ ls, x.1.length < 1048576 ∧ x.2.length < 1048576 := fun x hx => by have := hva.2.2 x hx; omega
  have hfl := Mk.frm_le ls k
  refine wp_skip ?_
  refine hK2 _ _ ?_
  clear hK2
  refine wp_seq_k ?_; intro K6 hK6
  refine reg hF hS (sq rfl (q_move rfl) <|
    sq rfl (q_move rfl) <|
    sq rfl (q_call fn56 rfl (fun w hS => from_ct _ _ _ hva.1 (by omega) w (Sl.mono (hS.le zin0) hb)) (fun _ _ _ h => h)) <|
    sq rfl (q_assign rfl) <|
    sq_end) ?_
  clear hF hS; intro a w hF hS
  refine hK6 _ _ ?_
  clear hK6
  refine wp_seq_k ?_; intro K7 hK7
  refine wp_seq_k ?_; intro K8 hK8
  refine regl ?_
  refine wpl_sq hF hS (sq rfl (q_move rfl) <|
    sq rfl (q_move rfl) <|
    sq rfl (q_len_sl ty33 hb rfl) <|
    sq rfl (q_lti rfl rfl) <|
    sq rfl (q_move rfl) <|
    sq_end) ?_
  clear hF hS; intro a w hF hS
  refine wpl_and 4 21 7 hF hS rfl rfl rfl rfl rfl (fun hg => have hg := (by first | exact of_decide_eq_true hg | exact hg); sq_go 21 rfl rfl rfl (q_move rfl) <|
    sq_go 21 rfl rfl rfl (q_move rfl) <|
    sq_go 21 rfl rfl rfl (q_idx_sl ty33 ty41 hb rfl rfl (by omega)) <|
    sq_go 21 rfl rfl rfl (q_fld_F ty41 hb rfl (by omega) rfl (s' := 0) kQ) <|
    sq_go 21 rfl rfl rfl (q_ld_FK ty9 hb zin0 rfl rfl (by omega)) <|
    sq_go 21 rfl rfl rfl (q_move rfl) <|
    sq_go 21 rfl rfl rfl (q_eqs rfl rfl) <|
    sq_end) rfl rfl ?_
  clear hF hS; intro a w hF hS
  refine wpList_nil ?_
  refine hK8 _ _ ?_
  clear hK8
  refine wp_if hF rfl (fun hc2 => ?_) (fun hc2 => ?_)
  ·(try simp only [Bool.or_eq_true, Bool.and_eq_true, Bool.or_eq_false_iff, Bool.and_eq_false_iff, decide_eq_true_eq, decide_eq_false_iff_not, Bool.not_eq_true', Bool.not_eq_false'] at hc2)
   have hfd : Mk.fnd ls k = true := by
    simp only [Int.toNat_natCast] at hc2
    exact Mk.fnd_t (by omega) hc2.2
   have hfd2 := (Mk.fnd_iff.1 hfd).1
   refine wp_seq_k ?_; intro K9 hK9
   refine regl ?_
   refine wpl_sq hF hS (sq rfl (q_move rfl) <|
     sq rfl (q_move rfl) <|
     sq rfl (q_move rfl) <|
     sq rfl (q_addi rfl rfl (by omega)) <|
     sq_end) ?_
   clear hF hS; intro a w hF hS
   refine wpl_ef hF hS rfl (ef_call fn57 rfl (fun w hS => shown_ct _ ls (Mk.frm ls k) (Mk.frm ls k + 1) _ _ rfl (by omega) (by omega) hx9 (by omega) (by omega) w (Sl.mono (hS.le zin0) hb) (hS.ext _ _ hg1))) ?_
   clear hF hS; rintro _ _ _ a w ⟨_, _, rfl, rfl, ⟨l3, s4, z5, rfl, hl6, hs7, rfl, rfl⟩⟩ hF hS
   replace hS : St _ [_] [_] _ := hS
   refine wpl_ef hF hS rfl (ef_storeW ty50 0 rfl rfl rfl rfl bQ (oc_cons rfl (oc_cons rfl (oc_cons (sl_one' hl6) (oc_cons (sl_one' hs7) oc_nil)))) bQ) ?_
   clear hF hS; rintro _ _ _ a w ⟨rfl, rfl, rfl⟩ hF hS
   replace hS : St _ [_] [_] _ := hS
   refine wpl_sq hF hS (sq rfl (q_assign rfl) <|
     sq_end) ?_
   clear hF hS; intro a w hF hS
   refine wpList_nil ?_
   refine hK9 _ _ ?_
   clear hK9
   refine wp_ret ?_
   replace hS := hS.zone00
   replace hS : St _ [_, _] [_] _ := hS
   obtain ⟨zu, hzu, hS⟩ := hS.union
   exact fn_ret (rs := [.cell 4 50, .tmp 5]) rfl hF hS (vs := [_, _]) ⟨⟨_, _, _, _, _, _, _, rfl, List.mem_of_getElem? (i := 0) rfl, ty50, .inl ⟨rfl, bQ, rfl⟩⟩, rfl, trivial⟩ (zs' := [zu]) (hs' := []) (List.singleton_sublist.2 (by simp)) zQ (pe_of (q := Mk.shown ls (Mk.frm ls k) (Mk.frm ls k + 1)) ⟨_, _, zu, rfl, Sl.mono (hzu _ (by simp)) hl6, Sl.mono (hzu _ (by simp)) hs7, rfl, rfl⟩ (by rw [Mk.provE_t hv0 hfd]) (by rw [Mk.provE_t hv0 hfd]))
  ·(try simp only [Bool.or_eq_true, Bool.and_eq_true, Bool.or_eq_false_iff, Bool.and_eq_false_iff, decide_eq_true_eq, decide_eq_false_iff_not, Bool.not_eq_true', Bool.not_eq_false'] at hc2)
   have hfd : Mk.fnd ls k = false := by
    simp only [Int.toNat_natCast] at hc2
    exact Mk.fnd_f (fun h9 => by rcases hc2 with h | h; exact h (by omega); exact h h9.2)
   refine wp_skip ?_
   refine hK7 _ _ ?_
   clear hK7
   refine wp_seq_k ?_; intro K10 hK10
   refine regl ?_
   refine wpl_sq hF hS (sq rfl (q_move rfl) <|
     sq rfl (q_move rfl) <|
     sq rfl (q_subi rfl rfl (by omega)) <|
     sq rfl (q_max rfl rfl) <|
     sq rfl (q_move rfl) <|
     sq rfl (q_addi rfl rfl (by omega)) <|
     sq rfl (q_move rfl) <|
     sq rfl (q_len_sl ty33 hb rfl) <|
     sq rfl (q_min rfl rfl) <|
     sq_end) ?_
   clear hF hS; intro a w hF hS
   refine wpl_ef hF hS rfl (ef_call fn57 rfl (fun w hS => shown_ct _ ls (Mk.frm ls k - 1) (min (Mk.frm ls k + 1) ls.length) _ _ (by omega) (by omega) (by omega) hx9 (by omega) (by omega) w (Sl.mono (hS.le zin0) hb) (hS.ext _ _ hg1))) ?_
   clear hF hS; rintro _ _ _ a w ⟨_, _, rfl, rfl, ⟨l9, s10, z11, rfl, hl12, hs13, rfl, rfl⟩⟩ hF hS
   replace hS : St _ [_] [_] _ := hS
   refine wpl_ef hF hS rfl (ef_storeW ty50 0 rfl rfl rfl rfl bQ (oc_cons rfl (oc_cons rfl (oc_cons (sl_one' hl12) (oc_cons (sl_one' hs13) oc_nil)))) bQ) ?_
   clear hF hS; rintro _ _ _ a w ⟨rfl, rfl, rfl⟩ hF hS
   replace hS : St _ [_] [_] _ := hS
   refine wpl_sq hF hS (sq rfl (q_assign rfl) <|
     sq_end) ?_
   clear hF hS; intro a w hF hS
   refine wpList_nil ?_
   refine hK10 _ _ ?_
   clear hK10
   refine wp_ret ?_
   replace hS := hS.zone00
   replace hS : St _ [_, _] [_] _ := hS
   obtain ⟨zu, hzu, hS⟩ := hS.union
   exact fn_ret (rs := [.cell 4 50, .tmp 5]) rfl hF hS (vs := [_, _]) ⟨⟨_, _, _, _, _, _, _, rfl, List.mem_of_getElem? (i := 0) rfl, ty50, .inl ⟨rfl, bQ, rfl⟩⟩, rfl, trivial⟩ (zs' := [zu]) (hs' := []) (List.singleton_sublist.2 (by simp)) zQ (pe_of (q := Mk.shown ls (Mk.frm ls k - 1) (min (Mk.frm ls k + 1) ls.length)) ⟨_, _, zu, rfl, Sl.mono (hzu _ (by simp)) hl12, Sl.mono (hzu _ (by simp)) hs13, rfl, rfl⟩ (by rw [Mk.provE_f hv0 hfd]) (by rw [Mk.provE_f hv0 hfd]))

set_option maxRecDepth 4000 in
set_option maxHeartbeats 2000000 in
theorem range_ct (v : Value) (ls : List Mk.Lf) (k m : List UInt8) (w : World) (hb : Sl encF (ph w) v ls) {fz1 : Nat × Nat} {bt1 : TypeId} (hg1 : w.heap[2]? = some (.cells (Sha.kc.map vw).toArray bt1 fz1)) : Ct Tryd.prog 24 [v, vs k, vs m] w (PfE (Mk.rangE ls k m).1 (Mk.rangE ls k m).2) := by
 refine fn_enter Tryd.func24 rfl Tryd.ntmps24 (Nat.le_of_ble_eq_true rfl) fun a hF hS => ?_
 have hbl := hb.1
 refine wp_seq_k ?_; intro K1 hK1
 refine regl ?_
 refine wpl_ef hF hS rfl (ef_allocA ty50) ?_
 clear hF hS; rintro _ _ _ a w ⟨b1, rfl, rfl, rfl⟩ hF hS
 refine wpl_sq hF hS (sq rfl (q_assign rfl) <|
   sq_end) ?_
 clear hF hS; intro a w hF hS
 refine wpList_nil ?_
 refine hK1 _ _ ?_
 clear hK1
 refine wp_seq_k ?_; intro K2 hK2
 refine wp_seq_k ?_; intro K3 hK3
 refine reg hF hS (sq rfl (q_move rfl) <|
   sq rfl (q_call fn15 rfl (fun w hS => valid_ct _ _ w (Sl.mono (hS.le zin0) hb)) (fun _ _ _ h => h)) <|
   sq rfl (q_assign rfl) <|
   sq_end) ?_
 clear hF hS; intro a w hF hS
 refine hK3 _ _ ?_
 clear hK3
 refine wp_seq_k ?_; intro K4 hK4
 refine reg hF hS (sq rfl (q_move rfl) <|
   sq rfl (q_nei rfl rfl) <|
   sq_end) ?_
 clear hF hS; intro a w hF hS
 refine hK4 _ _ ?_
 clear hK4
 refine wp_ifn hF rfl (fun hc1 => ?_) (fun hc1 => ?_)
 ·have hv0 : ¬ Mk.vE ls = 0 := by simpa using hc1
  refine wp_seq_k ?_; intro K5 hK5
  refine regl ?_
  refine wpl_sq hF hS (sq rfl (q_buildP (places := [(0, 1), (1, 1), (2, 1), (3, 1)]) (cells := [.int .i64 0, .int .i64 0, .slice none 0 0, .slice none 0 0]) ty50 kQ rfl (by rfl)) <|
    sq rfl (q_move rfl) <|
    sq_end) ?_
  clear hF hS; intro a w hF hS
  refine wpl_ef hF hS rfl (ef_storeW ty50 0 rfl rfl rfl rfl bQ (oc_cons rfl (oc_cons rfl (oc_cons rfl (oc_cons rfl oc_nil)))) bQ) ?_
  clear hF hS; rintro _ _ _ a w ⟨rfl, rfl, rfl⟩ hF hS
  replace hS : St _ [] [_] _ := hS
  refine wpl_sq hF hS (sq rfl (q_assign rfl) <|
    sq_end) ?_
  clear hF hS; intro a w hF hS
  refine wpList_nil ?_
  refine hK5 _ _ ?_
  clear hK5
  refine wp_ret ?_
  replace hS := hS.zone00
  replace hS : St _ [_] [_] _ := hS
  obtain ⟨zu, hzu, hS⟩ := hS.union
  exact fn_ret (rs := [.cell 6 50, .tmp 7]) rfl hF hS (vs := [_, _]) ⟨⟨_, _, _, _, _, _, _, rfl, List.mem_of_getElem? (i := 0) rfl, ty50, .inl ⟨rfl, bQ, rfl⟩⟩, rfl, trivial⟩ (zs' := [zu]) (hs' := []) (List.singleton_sublist.2 (by simp)) zQ (pe_of (q := Mk.pf0) ⟨_, _, zu, rfl, sl_nil, sl_nil, rfl, rfl⟩ (by rw [Mk.rangE_e hv0]) (by rw [Mk.rangE_e hv0]))
 ·have hv0 : Mk.vE ls = 0 := by simpa using hc1
  have hva := Mk.vE_asc hv0
  have hx9 : ∀ x ∈ ls, x.1.length < 1048576 ∧ x.2.length < 1048576 := fun x hx => by have := hva.2.2 x hx; omega
  have hfl := Mk.frm_le ls k
  have hfm := Mk.frm_le ls m
  refine wp_skip ?_
  refine hK2 _ _ ?_
  clear hK2
  refine wp_seq_k ?_; intro K6 hK6
  refine wp_seq_k ?_; intro K7 hK7
  refine reg hF hS (sq rfl (q_move rfl) <|
    sq rfl (q_move rfl) <|
    sq rfl (q_lts rfl rfl) <|
    sq_end) ?_
  clear hF hS; intro a w hF hS
  refine hK7 _ _ ?_
  clear hK7
  refine wp_if hF rfl (fun hc2 => ?_) (fun hc2 => ?_)
  ·have hlm : Mk.lt m k = true := hc2
   refine wp_seq_k ?_; intro K8 hK8
   refine regl ?_
   refine wpl_sq hF hS (sq rfl (q_buildP (places := [(0, 1), (1, 1), (2, 1), (3, 1)]) (cells := [.int .i64 0, .int .i64 0, .slice none 0 0, .slice none 0 0]) ty50 kQ rfl (by rfl)) <|
     sq_end) ?_
   clear hF hS; intro a w hF hS
   refine wpl_ef hF hS rfl (ef_storeW ty50 0 rfl rfl rfl rfl bQ (oc_cons rfl (oc_cons rfl (oc_cons rfl (oc_cons rfl oc_nil)))) bQ) ?_
   clear hF hS; rintro _ _ _ a w ⟨rfl, rfl, rfl⟩ hF hS
   replace hS : St _ [] [_] _ := hS
   refine wpl_sq hF hS (sq rfl (q_assign rfl) <|
     sq_end) ?_
   clear hF hS; intro a w hF hS
   refine wpList_nil ?_
   refine hK8 _ _ ?_
   clear hK8
   refine wp_ret ?_
   replace hS := hS.zone00
   replace hS : St _ [_] [_] _ := hS
   obtain ⟨zu, hzu, hS⟩ := hS.union
   exact fn_ret (rs := [.cell 6 50, .tmp 7]) rfl hF hS (vs := [_, _]) ⟨⟨_, _, _, _, _, _, _, rfl, List.mem_of_getElem? (i := 0) rfl, ty50, .inl ⟨rfl, bQ, rfl⟩⟩, rfl, trivial⟩ (zs' := [zu]) (hs' := []) (List.singleton_sublist.2 (by simp)) zQ (pe_of (q := Mk.pf0) ⟨_, _, zu, rfl, sl_nil, sl_nil, rfl, rfl⟩ (by rw [Mk.rangE_t hv0 hlm]) (by rw [Mk.rangE_t hv0 hlm]))
  ·have hlm : Mk.lt m k = false := hc2
   have hmo := Mk.frm_mono (ls := ls) hlm
   refine wp_skip ?_
   refine hK6 _ _ ?_
   clear hK6
   refine wp_seq_k ?_; intro K9 hK9
   refine regl ?_
   refine wpl_sq hF hS (sq rfl (q_move rfl) <|
     sq rfl (q_move rfl) <|
     sq rfl (q_move rfl) <|
     sq rfl (q_call fn56 rfl (fun w hS => from_ct _ _ _ hva.1 (by omega) w (Sl.mono (hS.le zin0) hb)) (fun _ _ _ h => h)) <|
     sq rfl (q_subi rfl rfl (by omega)) <|
     sq rfl (q_max rfl rfl) <|
     sq rfl (q_move rfl) <|
     sq rfl (q_move rfl) <|
     sq rfl (q_call fn56 rfl (fun w hS => from_ct _ _ _ hva.1 (by omega) w (Sl.mono (hS.le zin0) hb)) (fun _ _ _ h => h)) <|
     sq rfl (q_addi rfl rfl (by omega)) <|
     sq rfl (q_move rfl) <|
     sq rfl (q_len_sl ty33 hb rfl) <|
     sq rfl (q_min rfl rfl) <|
     sq_end) ?_
   clear hF hS; intro a w hF hS
   refine wpl_ef hF hS rfl (ef_call fn57 rfl (fun w hS => shown_ct _ ls (Mk.frm ls k - 1) (min (Mk.frm ls m + 1) ls.length) _ _ (by omega) (by omega) (by omega) hx9 (by omega) (by omega) w (Sl.mono (hS.le zin0) hb) (hS.ext _ _ hg1))) ?_
   clear hF hS; rintro _ _ _ a w ⟨_, _, rfl, rfl, ⟨l3, s4, z5, rfl, hl6, hs7, rfl, rfl⟩⟩ hF hS
   replace hS : St _ [_] [_] _ := hS
   refine wpl_ef hF hS rfl (ef_storeW ty50 0 rfl rfl rfl rfl bQ (oc_cons rfl (oc_cons rfl (oc_cons (sl_one' hl6) (oc_cons (sl_one' hs7) oc_nil)))) bQ) ?_
   clear hF hS; rintro _ _ _ a w ⟨rfl, rfl, rfl⟩ hF hS
   replace hS : St _ [_] [_] _ := hS
   refine wpl_sq hF hS (sq rfl (q_assign rfl) <|
     sq_end) ?_
   clear hF hS; intro a w hF hS
   refine wpList_nil ?_
   refine hK9 _ _ ?_
   clear hK9
   refine wp_ret ?_
   replace hS := hS.zone00
   replace hS : St _ [_, _] [_] _ := hS
   obtain ⟨zu, hzu, hS⟩ := hS.union
   exact fn_ret (rs := [.cell 6 50, .tmp 7]) rfl hF hS (vs := [_, _]) ⟨⟨_, _, _, _, _, _, _, rfl, List.mem_of_getElem? (i := 0) rfl, ty50, .inl ⟨rfl, bQ, rfl⟩⟩, rfl, trivial⟩ (zs' := [zu]) (hs' := []) (List.singleton_sublist.2 (by simp)) zQ (pe_of (q := Mk.shown ls (Mk.frm ls k - 1) (min (Mk.frm ls m + 1) ls.length)) ⟨_, _, zu, rfl, Sl.mono (hzu _ (by simp)) hl6, Sl.mono (hzu _ (by simp)) hs7, rfl, rfl⟩ (by rw [Mk.rangE_f hv0 hlm]) (by rw [Mk.rangE_f hv0 hlm]))

set_option maxRecDepth 4000 in
set_option maxHeartbeats 2000000 in
theorem rfrom_ct (v : Value) (ls : List Mk.Lf) (k : List UInt8) (w : World) (hb : Sl encF (ph w) v ls) : Ct Tryd.prog 58 [v, vs k] w (fun r _ _ => r = vi (Mk.frm ls k : Int)) := by
 refine fn_enter Tryd.func58 rfl Tryd.ntmps58 (Nat.le_of_ble_eq_true rfl) fun a hF hS => ?_
 have hbl := hb.1
 have hfu := Mk.frm_def ls k
 refine wp_seq_k ?_; intro K1 hK1
 refine reg hF hS (sq rfl (q_assign rfl) <|
   sq_end) ?_
 clear hF hS; intro a w hF hS
 refine hK1 _ _ ?_
 clear hK1
 refine wp_seq_k ?_; intro K2 hK2
 refine reg hF hS (sq rfl (q_assign rfl) <|
   sq_end) ?_
 clear hF hS; intro a w hF hS
 refine hK2 _ _ ?_
 clear hK2
 refine wp_seq_k ?_; intro K3 hK3
 refine wp_seq_k ?_; intro K4 hK4
 refine reg hF hS (sq rfl (q_assign rfl) <|
   sq_end) ?_
 clear hF hS; intro a w hF hS
 refine hK4 _ _ ?_
 clear hK4
 refine wp_block ?_
 obtain ⟨hs0, hhs0, hS⟩ : ∃ h, h = _ ∧ St _ _ h _ := ⟨_, rfl, hS⟩
 refine wp_loopx (γ := Int) (0) (fun (i : Int) => [(5, vi (Mk.frN ls k i.toNat : Int)), (6, vi i)]) [(0, _), (1, _)] (fun (i : Int) => hs0) (fun (i : Int) => 0 ≤ i ∧ i ≤ ls.length) (fun (i : Int) => (ls.length - i).toNat) (hF.sub ⟨rfl, rfl, rfl, rfl, trivial⟩) (by subst hhs0; exact hS) (by exact ⟨Int.le_refl _, by omega⟩) ?_
 clear hF hS; rintro i a w hfact hF hS
 subst hhs0; (try dsimp only at hfact); (try dsimp only at hF); (try dsimp only at hS)
 obtain ⟨hi0, hi1⟩ := hfact
 replace hS : St _ [] [] _ := hS
 have hfn := Mk.frN_le ls k i.toNat
 refine wp_seq_k ?_; intro K5 hK5
 refine wp_seq_k ?_; intro K6 hK6
 refine reg hF hS (sq rfl (q_move rfl) <|
   sq rfl (q_move rfl) <|
   sq rfl (q_len_sl ty24 hb rfl) <|
   sq rfl (q_lti rfl rfl) <|
   sq_end) ?_
 clear hF hS; intro a w hF hS
 refine hK6 _ _ ?_
 clear hK6
 refine wp_ifd hF rfl (fun hc1 => ?_) (fun hc1 => ?_)
 ·refine wp_skip ?_
  refine hK5 _ _ ?_
  clear hK5
  refine wp_seq_k ?_; intro K7 hK7
  refine wp_block ?_
  refine wp_seq_k ?_; intro K8 hK8
  refine reg hF hS (sq rfl (q_move rfl) <|
    sq rfl (q_move rfl) <|
    sq rfl (q_idx_sl ty24 ty75 hb rfl rfl (by omega)) <|
    sq rfl (q_fld_F ty75 hb rfl (by omega) rfl (s' := 0) kQ) <|
    sq rfl (q_ld_FK ty9 hb zin0 rfl rfl (by omega)) <|
    sq rfl (q_move rfl) <|
    sq rfl (q_lts rfl rfl) <|
    sq_end) ?_
  clear hF hS; intro a w hF hS
  refine hK8 _ _ ?_
  clear hK8
  refine wp_if hF rfl (fun hc2 => ?_) (fun hc2 => ?_)
  ·have hlt : Mk.lt (ls.getD i.toNat kv0).1 k = true := hc2
   refine reg hF hS (sq rfl (q_move rfl) <|
     sq rfl (q_addi rfl rfl (by omega)) <|
     sq rfl (q_assign rfl) <|
     sq_end) ?_
   clear hF hS; intro a w hF hS
   refine hK7 _ _ ?_
   clear hK7
   refine reg hF hS (sq rfl (q_move rfl) <|
     sq rfl (q_addi rfl rfl (by omega)) <|
     sq rfl (q_assign rfl) <|
     sq_end) ?_
   clear hF hS; intro a w hF hS
   refine ⟨(i + 1), ?_, ?_, hF.sub ⟨(by rw [show (i + 1).toNat = i.toNat + 1 by omega, Mk.frN_succ, if_pos hlt]; rfl), rfl, rfl, rfl, trivial⟩, ?_⟩
   ·(try dsimp only); omega
   ·omega
   ·exact hS
  ·have hlt : ¬ Mk.lt (ls.getD i.toNat kv0).1 k = true := fun h9 => by rw [show Op.bytesLess (ls.getD i.toNat kv0).1 k = true from h9] at hc2; cases hc2
   refine wp_skip ?_
   refine hK7 _ _ ?_
   clear hK7
   refine reg hF hS (sq rfl (q_move rfl) <|
     sq rfl (q_addi rfl rfl (by omega)) <|
     sq rfl (q_assign rfl) <|
     sq_end) ?_
   clear hF hS; intro a w hF hS
   refine ⟨(i + 1), ?_, ?_, hF.sub ⟨(by rw [show (i + 1).toNat = i.toNat + 1 by omega, Mk.frN_succ, if_neg hlt]; rfl), rfl, rfl, rfl, trivial⟩, ?_⟩
   ·(try dsimp only); omega
   ·omega
   ·exact hS
 ·obtain rfl : i = ls.length := by omega
  rw [Int.toNat_natCast] at hF
  refine wp_exit ?_
  refine hK3 _ _ ?_
  clear hK3
  refine wp_seq_k ?_; intro K9 hK9
  refine reg hF hS (sq rfl (q_move rfl) <|
    sq rfl (q_assign rfl) <|
    sq_end) ?_
  clear hF hS; intro a w hF hS
  refine hK9 _ _ ?_
  clear hK9
  refine wp_ret ?_
  exact fn_ret (rs := [.tmp 4]) rfl hF hS (vs := [_]) ⟨rfl, trivial⟩ zQ zQ (by rw [hfu])

set_option maxRecDepth 4000 in
set_option maxHeartbeats 2000000 in
theorem rhas_ct (v : Value) (ls : List Mk.Lf) (k : List UInt8) (w : World) (hb : Sl encF (ph w) v ls) : Ct Tryd.prog 35 [v, vs k] w (fun r _ _ => r = vi (Mk.hasI ls k)) := by
 refine fn_enter Tryd.func35 rfl Tryd.ntmps35 (Nat.le_of_ble_eq_true rfl) fun a hF hS => ?_
 have hbl := hb.1
 refine wp_seq_k ?_; intro K1 hK1
 refine reg hF hS (sq rfl (q_assign rfl) <|
   sq_end) ?_
 clear hF hS; intro a w hF hS
 refine hK1 _ _ ?_
 clear hK1
 refine wp_seq_k ?_; intro K2 hK2
 refine wp_seq_k ?_; intro K3 hK3
 refine reg hF hS (sq rfl (q_assign rfl) <|
   sq_end) ?_
 clear hF hS; intro a w hF hS
 refine hK3 _ _ ?_
 clear hK3
 refine wp_block ?_
 obtain ⟨hs0, hhs0, hS⟩ : ∃ h, h = _ ∧ St _ _ h _ := ⟨_, rfl, hS⟩
 refine wp_loopx (γ := Int) (0) (fun (i : Int) => [(5, vi i)]) [(0, _), (1, _)] (fun (i : Int) => hs0) (fun (i : Int) => 0 ≤ i ∧ i ≤ ls.length ∧ ∀ j, j < i.toNat → decide ((ls.getD j kv0).1 = k) = false) (fun (i : Int) => (ls.length - i).toNat) (hF.sub ⟨rfl, rfl, rfl, trivial⟩) (by subst hhs0; exact hS) (by exact ⟨Int.le_refl _, by omega, fun j hj => absurd hj (by simp)⟩) ?_
 clear hF hS; rintro i a w hfact hF hS
 subst hhs0; (try dsimp only at hfact); (try dsimp only at hF); (try dsimp only at hS)
 obtain ⟨hi0, hi1, hno⟩ := hfact
 replace hS : St _ [] [] _ := hS
 refine wp_seq_k ?_; intro K4 hK4
 refine wp_seq_k ?_; intro K5 hK5
 refine reg hF hS (sq rfl (q_move rfl) <|
   sq rfl (q_move rfl) <|
   sq rfl (q_len_sl ty24 hb rfl) <|
   sq rfl (q_lti rfl rfl) <|
   sq_end) ?_
 clear hF hS; intro a w hF hS
 refine hK5 _ _ ?_
 clear hK5
 refine wp_ifd hF rfl (fun hc1 => ?_) (fun hc1 => ?_)
 ·refine wp_skip ?_
  refine hK4 _ _ ?_
  clear hK4
  refine wp_seq_k ?_; intro K6 hK6
  refine wp_block ?_
  refine wp_seq_k ?_; intro K7 hK7
  refine reg hF hS (sq rfl (q_move rfl) <|
    sq rfl (q_move rfl) <|
    sq rfl (q_idx_sl ty24 ty75 hb rfl rfl (by omega)) <|
    sq rfl (q_fld_F ty75 hb rfl (by omega) rfl (s' := 0) kQ) <|
    sq rfl (q_ld_FK ty9 hb zin0 rfl rfl (by omega)) <|
    sq rfl (q_move rfl) <|
    sq rfl (q_eqs rfl rfl) <|
    sq_end) ?_
  clear hF hS; intro a w hF hS
  refine hK7 _ _ ?_
  clear hK7
  refine wp_ifd hF rfl (fun hc2 => ?_) (fun hc2 => ?_)
  ·refine wp_seq_k ?_; intro K8 hK8
   refine reg hF hS (sq rfl (q_move rfl) <|
     sq rfl (q_assign rfl) <|
     sq_end) ?_
   clear hF hS; intro a w hF hS
   refine hK8 _ _ ?_
   clear hK8
   refine wp_ret ?_
   exact fn_ret (rs := [.tmp 4]) rfl hF hS (vs := [_]) ⟨rfl, trivial⟩ zQ zQ (by rw [Mk.hasI_at (i := i.toNat) (by omega) hc2 hno, Int.toNat_of_nonneg hi0])
  ·refine wp_skip ?_
   refine hK6 _ _ ?_
   clear hK6
   refine reg hF hS (sq rfl (q_move rfl) <|
     sq rfl (q_addi rfl rfl (by omega)) <|
     sq rfl (q_assign rfl) <|
     sq_end) ?_
   clear hF hS; intro a w hF hS
   refine ⟨(i + 1), ?_, ?_, hF.sub ⟨rfl, rfl, rfl, trivial⟩, ?_⟩
   ·(try dsimp only); omega
   ·exact ⟨by omega, by omega, Mk.none_step (p := fun x => decide (x.1 = k)) hi0 (decide_eq_false hc2) hno⟩
   ·exact hS
 ·refine wp_exit ?_
  refine hK2 _ _ ?_
  clear hK2
  refine wp_seq_k ?_; intro K9 hK9
  refine reg hF hS (sq rfl (q_assign rfl) <|
    sq_end) ?_
  clear hF hS; intro a w hF hS
  refine hK9 _ _ ?_
  clear hK9
  refine wp_ret ?_
  exact fn_ret (rs := [.tmp 4]) rfl hF hS (vs := [_]) ⟨rfl, trivial⟩ zQ zQ (by rw [Mk.hasI_no (fun j hj => hno j (by omega))])

set_option maxRecDepth 4000 in
set_option maxHeartbeats 2000000 in
theorem rprove_ct (v : Value) (ls : List Mk.Lf) (k : List UInt8) (w : World) (hb : Sl encF (ph w) v ls) {fz0 : Nat × Nat} {bt0 : TypeId} (hg0 : w.heap[0]? = some (.cells (Sha.kc.map vw).toArray bt0 fz0)) : Ct Tryd.prog 23 [v, vs k] w (PfE (Mk.provE ls k).1 (Mk.provE ls k).2) := by
 refine fn_enter Tryd.func23 rfl Tryd.ntmps23 (Nat.le_of_ble_eq_true rfl) fun a hF hS => ?_
 have hbl := hb.1
 refine wp_seq_k ?_; intro K1 hK1
 refine regl ?_
 refine wpl_ef hF hS rfl (ef_allocA ty54) ?_
 clear hF hS; rintro _ _ _ a w ⟨b1, rfl, rfl, rfl⟩ hF hS
 refine wpl_sq hF hS (sq rfl (q_assign rfl) <|
   sq_end) ?_
 clear hF hS; intro a w hF hS
 refine wpList_nil ?_
 refine hK1 _ _ ?_
 clear hK1
 refine wp_seq_k ?_; intro K2 hK2
 refine reg hF hS (sq rfl (q_move rfl) <|
   sq rfl (q_call fn16 rfl (fun w hS => rvalid_ct _ _ w (Sl.mono (hS.le zin0) hb)) (fun _ _ _ h => h)) <|
   sq rfl (q_assign rfl) <|
   sq_end) ?_
 clear hF hS; intro a w hF hS
 refine hK2 _ _ ?_
 clear hK2
 refine wp_seq_k ?_; intro K3 hK3
 refine wp_seq_k ?_; intro K4 hK4
 refine reg hF hS (sq rfl (q_move rfl) <|
   sq rfl (q_nei rfl rfl) <|
   sq_end) ?_
 clear hF hS; intro a w hF hS
 refine hK4 _ _ ?_
 clear hK4
 refine wp_ifn hF rfl (fun hc1 => ?_) (fun hc1 => ?_)
 ·have hv0 : ¬ Mk.vE ls = 0 := by simpa using hc1
  refine wp_seq_k ?_; intro K5 hK5
  refine regl ?_
  refine wpl_sq hF hS (sq rfl (q_buildP (places := [(0, 1), (1, 1), (2, 1), (3, 1)]) (cells := [.int .i64 0, .int .i64 0, .slice none 0 0, .slice none 0 0]) ty54 kQ rfl (by rfl)) <|
    sq rfl (q_move rfl) <|
    sq_end) ?_
  clear hF hS; intro a w hF hS
  refine wpl_ef hF hS rfl (ef_storeW ty54 0 rfl rfl rfl rfl bQ (oc_cons rfl (oc_cons rfl (oc_cons rfl (oc_cons rfl oc_nil)))) bQ) ?_
  clear hF hS; rintro _ _ _ a w ⟨rfl, rfl, rfl⟩ hF hS
  replace hS : St _ [] [_] _ := hS
  refine wpl_sq hF hS (sq rfl (q_assign rfl) <|
    sq_end) ?_
  clear hF hS; intro a w hF hS
  refine wpList_nil ?_
  refine hK5 _ _ ?_
  clear hK5
  refine wp_ret ?_
  replace hS := hS.zone00
  replace hS : St _ [_] [_] _ := hS
  obtain ⟨zu, hzu, hS⟩ := hS.union
  exact fn_ret (rs := [.cell 4 54, .tmp 5]) rfl hF hS (vs := [_, _]) ⟨⟨_, _, _, _, _, _, _, rfl, List.mem_of_getElem? (i := 0) rfl, ty54, .inl ⟨rfl, bQ, rfl⟩⟩, rfl, trivial⟩ (zs' := [zu]) (hs' := []) (List.singleton_sublist.2 (by simp)) zQ (pe_of (q := Mk.pf0) ⟨_, _, zu, rfl, sl_nil, sl_nil, rfl, rfl⟩ (by rw [Mk.provE_e hv0]) (by rw [Mk.provE_e hv0]))
 ·have hv0 : Mk.vE ls = 0 := by simpa using hc1
  have hva := Mk.vE_asc hv0
  have hx9 : ∀ x ∈ ls, x.1.length < 1048576 ∧ x.2.length < 1048576 := fun x hx => by have := hva.2.2 x hx; omega
  have hfl := Mk.frm_le ls k
  refine wp_skip ?_
  refine hK3 _ _ ?_
  clear hK3
  refine wp_seq_k ?_; intro K6 hK6
  refine reg hF hS (sq rfl (q_move rfl) <|
    sq rfl (q_move rfl) <|
    sq rfl (q_call fn58 rfl (fun w hS => rfrom_ct _ _ _ w (Sl.mono (hS.le zin0) hb)) (fun _ _ _ h => h)) <|
    sq rfl (q_assign rfl) <|
    sq_end) ?_
  clear hF hS; intro a w hF hS
  refine hK6 _ _ ?_
  clear hK6
  refine wp_seq_k ?_; intro K7 hK7
  refine wp_seq_k ?_; intro K8 hK8
  refine reg hF hS (sq rfl (q_move rfl) <|
    sq rfl (q_move rfl) <|
    sq rfl (q_call fn35 rfl (fun w hS => rhas_ct _ _ _ w (Sl.mono (hS.le zin0) hb)) (fun _ _ _ h => h)) <|
    sq rfl (q_gei rfl rfl) <|
    sq_end) ?_
  clear hF hS; intro a w hF hS
  refine hK8 _ _ ?_
  clear hK8
  refine wp_ifd hF rfl (fun hc2 => ?_) (fun hc2 => ?_)
  ·have hfd : Mk.fnd ls k = true := (Mk.has_fnd hv0 k).1 hc2
   have hfd2 := (Mk.fnd_iff.1 hfd).1
   refine wp_seq_k ?_; intro K9 hK9
   refine regl ?_
   refine wpl_sq hF hS (sq rfl (q_move rfl) <|
     sq rfl (q_move rfl) <|
     sq rfl (q_move rfl) <|
     sq rfl (q_addi rfl rfl (by omega)) <|
     sq_end) ?_
   clear hF hS; intro a w hF hS
   refine wpl_ef hF hS rfl (ef_call fn59 rfl (fun w hS => rshown_ct _ ls (Mk.frm ls k) (Mk.frm ls k + 1) _ _ rfl (by omega) (by omega) hx9 (by omega) (by omega) w (Sl.mono (hS.le zin0) hb) (hS.ext _ _ hg0))) ?_
   clear hF hS; rintro _ _ _ a w ⟨_, _, rfl, rfl, ⟨l3, s4, z5, rfl, hl6, hs7, rfl, rfl⟩⟩ hF hS
   replace hS : St _ [_] [_] _ := hS
   refine wpl_ef hF hS rfl (ef_storeW ty54 0 rfl rfl rfl rfl bQ (oc_cons rfl (oc_cons rfl (oc_cons (sl_one' hl6) (oc_cons (sl_one' hs7) oc_nil)))) bQ) ?_
   clear hF hS; rintro _ _ _ a w ⟨rfl, rfl, rfl⟩ hF hS
   replace hS : St _ [_] [_] _ := hS
   refine wpl_sq hF hS (sq rfl (q_assign rfl) <|
     sq_end) ?_
   clear hF hS; intro a w hF hS
   refine wpList_nil ?_
   refine hK9 _ _ ?_
   clear hK9
   refine wp_ret ?_
   replace hS := hS.zone00
   replace hS : St _ [_, _] [_] _ := hS
   obtain ⟨zu, hzu, hS⟩ := hS.union
   exact fn_ret (rs := [.cell 4 54, .tmp 5]) rfl hF hS (vs := [_, _]) ⟨⟨_, _, _, _, _, _, _, rfl, List.mem_of_getElem? (i := 0) rfl, ty54, .inl ⟨rfl, bQ, rfl⟩⟩, rfl, trivial⟩ (zs' := [zu]) (hs' := []) (List.singleton_sublist.2 (by simp)) zQ (pe_of (q := Mk.shown ls (Mk.frm ls k) (Mk.frm ls k + 1)) ⟨_, _, zu, rfl, Sl.mono (hzu _ (by simp)) hl6, Sl.mono (hzu _ (by simp)) hs7, rfl, rfl⟩ (by rw [Mk.provE_t hv0 hfd]) (by rw [Mk.provE_t hv0 hfd]))
  ·have hfd : Mk.fnd ls k = false := by
    cases h9 : Mk.fnd ls k with
    | false => rfl
    | true => exact absurd ((Mk.has_fnd hv0 k).2 h9) hc2
   refine wp_skip ?_
   refine hK7 _ _ ?_
   clear hK7
   refine wp_seq_k ?_; intro K10 hK10
   refine regl ?_
   refine wpl_sq hF hS (sq rfl (q_move rfl) <|
     sq rfl (q_move rfl) <|
     sq rfl (q_subi rfl rfl (by omega)) <|
     sq rfl (q_max rfl rfl) <|
     sq rfl (q_move rfl) <|
     sq rfl (q_addi rfl rfl (by omega)) <|
     sq rfl (q_move rfl) <|
     sq rfl (q_len_sl ty24 hb rfl) <|
     sq rfl (q_min rfl rfl) <|
     sq_end) ?_
   clear hF hS; intro a w hF hS
   refine wpl_ef hF hS rfl (ef_call fn59 rfl (fun w hS => rshown_ct _ ls (Mk.frm ls k - 1) (min (Mk.frm ls k + 1) ls.length) _ _ (by omega) (by omega) (by omega) hx9 (by omega) (by omega) w (Sl.mono (hS.le zin0) hb) (hS.ext _ _ hg0))) ?_
   clear hF hS; rintro _ _ _ a w ⟨_, _, rfl, rfl, ⟨l9, s10, z11, rfl, hl12, hs13, rfl, rfl⟩⟩ hF hS
   replace hS : St _ [_] [_] _ := hS
   refine wpl_ef hF hS rfl (ef_storeW ty54 0 rfl rfl rfl rfl bQ (oc_cons rfl (oc_cons rfl (oc_cons (sl_one' hl12) (oc_cons (sl_one' hs13) oc_nil)))) bQ) ?_
   clear hF hS; rintro _ _ _ a w ⟨rfl, rfl, rfl⟩ hF hS
   replace hS : St _ [_] [_] _ := hS
   refine wpl_sq hF hS (sq rfl (q_assign rfl) <|
     sq_end) ?_
   clear hF hS; intro a w hF hS
   refine wpList_nil ?_
   refine hK10 _ _ ?_
   clear hK10
   refine wp_ret ?_
   replace hS := hS.zone00
   replace hS : St _ [_, _] [_] _ := hS
   obtain ⟨zu, hzu, hS⟩ := hS.union
   exact fn_ret (rs := [.cell 4 54, .tmp 5]) rfl hF hS (vs := [_, _]) ⟨⟨_, _, _, _, _, _, _, rfl, List.mem_of_getElem? (i := 0) rfl, ty54, .inl ⟨rfl, bQ, rfl⟩⟩, rfl, trivial⟩ (zs' := [zu]) (hs' := []) (List.singleton_sublist.2 (by simp)) zQ (pe_of (q := Mk.shown ls (Mk.frm ls k - 1) (min (Mk.frm ls k + 1) ls.length)) ⟨_, _, zu, rfl, Sl.mono (hzu _ (by simp)) hl12, Sl.mono (hzu _ (by simp)) hs13, rfl, rfl⟩ (by rw [Mk.provE_f hv0 hfd]) (by rw [Mk.provE_f hv0 hfd]))

set_option maxRecDepth 4000 in
set_option maxHeartbeats 2000000 in
theorem rrange_ct (v : Value) (ls : List Mk.Lf) (k m : List UInt8) (w : World) (hb : Sl encF (ph w) v ls) {fz0 : Nat × Nat} {bt0 : TypeId} (hg0 : w.heap[0]? = some (.cells (Sha.kc.map vw).toArray bt0 fz0)) : Ct Tryd.prog 25 [v, vs k, vs m] w (PfE (Mk.rangE ls k m).1 (Mk.rangE ls k m).2) := by
 refine fn_enter Tryd.func25 rfl Tryd.ntmps25 (Nat.le_of_ble_eq_true rfl) fun a hF hS => ?_
 have hbl := hb.1
 refine wp_seq_k ?_; intro K1 hK1
 refine regl ?_
 refine wpl_ef hF hS rfl (ef_allocA ty54) ?_
 clear hF hS; rintro _ _ _ a w ⟨b1, rfl, rfl, rfl⟩ hF hS
 refine wpl_sq hF hS (sq rfl (q_assign rfl) <|
   sq_end) ?_
 clear hF hS; intro a w hF hS
 refine wpList_nil ?_
 refine hK1 _ _ ?_
 clear hK1
 refine wp_seq_k ?_; intro K2 hK2
 refine reg hF hS (sq rfl (q_move rfl) <|
   sq rfl (q_call fn16 rfl (fun w hS => rvalid_ct _ _ w (Sl.mono (hS.le zin0) hb)) (fun _ _ _ h => h)) <|
   sq rfl (q_assign rfl) <|
   sq_end) ?_
 clear hF hS; intro a w hF hS
 refine hK2 _ _ ?_
 clear hK2
 refine wp_seq_k ?_; intro K3 hK3
 refine wp_seq_k ?_; intro K4 hK4
 refine reg hF hS (sq rfl (q_move rfl) <|
   sq rfl (q_nei rfl rfl) <|
   sq_end) ?_
 clear hF hS; intro a w hF hS
 refine hK4 _ _ ?_
 clear hK4
 refine wp_ifn hF rfl (fun hc1 => ?_) (fun hc1 => ?_)
 ·have hv0 : ¬ Mk.vE ls = 0 := by simpa using hc1
  refine wp_seq_k ?_; intro K5 hK5
  refine regl ?_
  refine wpl_sq hF hS (sq rfl (q_buildP (places := [(0, 1), (1, 1), (2, 1), (3, 1)]) (cells := [.int .i64 0, .int .i64 0, .slice none 0 0, .slice none 0 0]) ty54 kQ rfl (by rfl)) <|
    sq rfl (q_move rfl) <|
    sq_end) ?_
  clear hF hS; intro a w hF hS
  refine wpl_ef hF hS rfl (ef_storeW ty54 0 rfl rfl rfl rfl bQ (oc_cons rfl (oc_cons rfl (oc_cons rfl (oc_cons rfl oc_nil)))) bQ) ?_
  clear hF hS; rintro _ _ _ a w ⟨rfl, rfl, rfl⟩ hF hS
  replace hS : St _ [] [_] _ := hS
  refine wpl_sq hF hS (sq rfl (q_assign rfl) <|
    sq_end) ?_
  clear hF hS; intro a w hF hS
  refine wpList_nil ?_
  refine hK5 _ _ ?_
  clear hK5
  refine wp_ret ?_
  replace hS := hS.zone00
  replace hS : St _ [_] [_] _ := hS
  obtain ⟨zu, hzu, hS⟩ := hS.union
  exact fn_ret (rs := [.cell 6 54, .tmp 7]) rfl hF hS (vs := [_, _]) ⟨⟨_, _, _, _, _, _, _, rfl, List.mem_of_getElem? (i := 0) rfl, ty54, .inl ⟨rfl, bQ, rfl⟩⟩, rfl, trivial⟩ (zs' := [zu]) (hs' := []) (List.singleton_sublist.2 (by simp)) zQ (pe_of (q := Mk.pf0) ⟨_, _, zu, rfl, sl_nil, sl_nil, rfl, rfl⟩ (by rw [Mk.rangE_e hv0]) (by rw [Mk.rangE_e hv0]))
 ·have hv0 : Mk.vE ls = 0 := by simpa using hc1
  have hva := Mk.vE_asc hv0
  have hx9 : ∀ x ∈ ls, x.1.length < 1048576 ∧ x.2.length < 1048576 := fun x hx => by have := hva.2.2 x hx; omega
  have hfl := Mk.frm_le ls k
  have hfm := Mk.frm_le ls m
  refine wp_skip ?_
  refine hK3 _ _ ?_
  clear hK3
  refine wp_seq_k ?_; intro K6 hK6
  refine wp_seq_k ?_; intro K7 hK7
  refine reg hF hS (sq rfl (q_move rfl) <|
    sq rfl (q_move rfl) <|
    sq rfl (q_lts rfl rfl) <|
    sq_end) ?_
  clear hF hS; intro a w hF hS
  refine hK7 _ _ ?_
  clear hK7
  refine wp_if hF rfl (fun hc2 => ?_) (fun hc2 => ?_)
  ·have hlm : Mk.lt m k = true := hc2
   refine wp_seq_k ?_; intro K8 hK8
   refine regl ?_
   refine wpl_sq hF hS (sq rfl (q_buildP (places := [(0, 1), (1, 1), (2, 1), (3, 1)]) (cells := [.int .i64 0, .int .i64 0, .slice none 0 0, .slice none 0 0]) ty54 kQ rfl (by rfl)) <|
     sq_end) ?_
   clear hF hS; intro a w hF hS
   refine wpl_ef hF hS rfl (ef_storeW ty54 0 rfl rfl rfl rfl bQ (oc_cons rfl (oc_cons rfl (oc_cons rfl (oc_cons rfl oc_nil)))) bQ) ?_
   clear hF hS; rintro _ _ _ a w ⟨rfl, rfl, rfl⟩ hF hS
   replace hS : St _ [] [_] _ := hS
   refine wpl_sq hF hS (sq rfl (q_assign rfl) <|
     sq_end) ?_
   clear hF hS; intro a w hF hS
   refine wpList_nil ?_
   refine hK8 _ _ ?_
   clear hK8
   refine wp_ret ?_
   replace hS := hS.zone00
   replace hS : St _ [_] [_] _ := hS
   obtain ⟨zu, hzu, hS⟩ := hS.union
   exact fn_ret (rs := [.cell 6 54, .tmp 7]) rfl hF hS (vs := [_, _]) ⟨⟨_, _, _, _, _, _, _, rfl, List.mem_of_getElem? (i := 0) rfl, ty54, .inl ⟨rfl, bQ, rfl⟩⟩, rfl, trivial⟩ (zs' := [zu]) (hs' := []) (List.singleton_sublist.2 (by simp)) zQ (pe_of (q := Mk.pf0) ⟨_, _, zu, rfl, sl_nil, sl_nil, rfl, rfl⟩ (by rw [Mk.rangE_t hv0 hlm]) (by rw [Mk.rangE_t hv0 hlm]))
  ·have hlm : Mk.lt m k = false := hc2
   have hmo := Mk.frm_mono (ls := ls) hlm
   refine wp_skip ?_
   refine hK6 _ _ ?_
   clear hK6
   refine wp_seq_k ?_; intro K9 hK9
   refine regl ?_
   refine wpl_sq hF hS (sq rfl (q_move rfl) <|
     sq rfl (q_move rfl) <|
     sq rfl (q_move rfl) <|
     sq rfl (q_call fn58 rfl (fun w hS => rfrom_ct _ _ _ w (Sl.mono (hS.le zin0) hb)) (fun _ _ _ h => h)) <|
     sq rfl (q_subi rfl rfl (by omega)) <|
     sq rfl (q_max rfl rfl) <|
     sq rfl (q_move rfl) <|
     sq rfl (q_move rfl) <|
     sq rfl (q_call fn58 rfl (fun w hS => rfrom_ct _ _ _ w (Sl.mono (hS.le zin0) hb)) (fun _ _ _ h => h)) <|
     sq rfl (q_addi rfl rfl (by omega)) <|
     sq rfl (q_move rfl) <|
     sq rfl (q_len_sl ty24 hb rfl) <|
     sq rfl (q_min rfl rfl) <|
     sq_end) ?_
   clear hF hS; intro a w hF hS
   refine wpl_ef hF hS rfl (ef_call fn59 rfl (fun w hS => rshown_ct _ ls (Mk.frm ls k - 1) (min (Mk.frm ls m + 1) ls.length) _ _ (by omega) (by omega) (by omega) hx9 (by omega) (by omega) w (Sl.mono (hS.le zin0) hb) (hS.ext _ _ hg0))) ?_
   clear hF hS; rintro _ _ _ a w ⟨_, _, rfl, rfl, ⟨l3, s4, z5, rfl, hl6, hs7, rfl, rfl⟩⟩ hF hS
   replace hS : St _ [_] [_] _ := hS
   refine wpl_ef hF hS rfl (ef_storeW ty54 0 rfl rfl rfl rfl bQ (oc_cons rfl (oc_cons rfl (oc_cons (sl_one' hl6) (oc_cons (sl_one' hs7) oc_nil)))) bQ) ?_
   clear hF hS; rintro _ _ _ a w ⟨rfl, rfl, rfl⟩ hF hS
   replace hS : St _ [_] [_] _ := hS
   refine wpl_sq hF hS (sq rfl (q_assign rfl) <|
     sq_end) ?_
   clear hF hS; intro a w hF hS
   refine wpList_nil ?_
   refine hK9 _ _ ?_
   clear hK9
   refine wp_ret ?_
   replace hS := hS.zone00
   replace hS : St _ [_, _] [_] _ := hS
   obtain ⟨zu, hzu, hS⟩ := hS.union
   exact fn_ret (rs := [.cell 6 54, .tmp 7]) rfl hF hS (vs := [_, _]) ⟨⟨_, _, _, _, _, _, _, rfl, List.mem_of_getElem? (i := 0) rfl, ty54, .inl ⟨rfl, bQ, rfl⟩⟩, rfl, trivial⟩ (zs' := [zu]) (hs' := []) (List.singleton_sublist.2 (by simp)) zQ (pe_of (q := Mk.shown ls (Mk.frm ls k - 1) (min (Mk.frm ls m + 1) ls.length)) ⟨_, _, zu, rfl, Sl.mono (hzu _ (by simp)) hl6, Sl.mono (hzu _ (by simp)) hs7, rfl, rfl⟩ (by rw [Mk.rangE_f hv0 hlm]) (by rw [Mk.rangE_f hv0 hlm]))

set_option maxRecDepth 4000 in
set_option maxHeartbeats 2000000 in
theorem own_ct (v : Value) (ls : List Mk.Lf) (hl : ls.length < 1048576) (w : World) (hb : Sl encF (ph w) v ls) : Ct Tryd.prog 13 [v] w (SlR encF ls) := by
 refine fn_enter Tryd.func13 rfl Tryd.ntmps13 (Nat.le_of_ble_eq_true rfl) fun a hF hS => ?_
 have hbl := hb.1
 have hkv := F_all hb
 have hkt : ∀ (m : Nat), (ls.take m).length ≤ 1048576 := fun m => by rw [List.length_take]; omega
 refine wp_seq_k ?_; intro K1 hK1
 refine reg hF hS (sq rfl (q_assign rfl) <|
   sq_end) ?_
 clear hF hS; intro a w hF hS
 refine hK1 _ _ ?_
 clear hK1
 refine wp_seq_k ?_; intro K2 hK2
 refine reg hF hS (sq rfl (q_assign rfl) <|
   sq_end) ?_
 clear hF hS; intro a w hF hS
 replace hS := hS.nilRow 41 2
 refine hK2 _ _ ?_
 clear hK2
 refine wp_seq_k ?_; intro K3 hK3
 refine wp_seq_k ?_; intro K4 hK4
 refine reg hF hS (sq rfl (q_assign rfl) <|
   sq_end) ?_
 clear hF hS; intro a w hF hS
 refine hK4 _ _ ?_
 clear hK4
 refine wp_block ?_
 obtain ⟨hs0, hhs0, hS⟩ : ∃ h, h = _ ∧ St _ _ h _ := ⟨_, rfl, hS⟩
 refine wp_loopx (γ := Value × Int) ((Value.slice none 0 0), 0) (fun (gg : Value × Int) => match gg with | (u, i) => [(3, u), (4, vi i)]) [(0, _)] (fun (gg : Value × Int) => match gg with | (u, i) => (hs0.set 0 (.row u 41 2 (ls.take i.toNat).length ((ls.take i.toNat).flatMap kvC)))) (fun (gg : Value × Int) => match gg with | (u, i) => 0 ≤ i ∧ i ≤ ls.length) (fun (gg : Value × Int) => match gg with | (u, i) => (ls.length - i).toNat) (hF.sub ⟨rfl, rfl, rfl, trivial⟩) (by subst hhs0; exact hS) (by exact ⟨Int.le_refl _, by omega⟩) ?_
 clear hF hS; rintro ⟨u, i⟩ a w hfact hF hS
 subst hhs0; (try dsimp only at hfact); (try dsimp only at hF); (try dsimp only at hS)
 obtain ⟨hi0, hi1⟩ := hfact
 replace hS : St _ [] [_] _ := hS
 have htl : (ls.take i.toNat).length = i.toNat := by rw [List.length_take]; omega
 refine wp_seq_k ?_; intro K5 hK5
 refine wp_seq_k ?_; intro K6 hK6
 refine reg hF hS (sq rfl (q_move rfl) <|
   sq rfl (q_move rfl) <|
   sq rfl (q_len_sl ty24 hb rfl) <|
   sq rfl (q_lti rfl rfl) <|
   sq_end) ?_
 clear hF hS; intro a w hF hS
 refine hK6 _ _ ?_
 clear hK6
 refine wp_ifd hF rfl (fun hc1 => ?_) (fun hc1 => ?_)
 ·refine wp_skip ?_
  refine hK5 _ _ ?_
  clear hK5
  refine wp_seq_k ?_; intro K7 hK7
  refine wp_block ?_
  revert hS; revert hF; apply regJ (J := J2 (α0 := Value) (α1 := Value) 26 _ _ _ _ _) #[false, false, false, false, false, false, false, false, false, false, false, false, false, false, false] 15 mixed rfl rfl
  ·intro w hF hS
   refine goW_take 0 _ rfl kQ rfl hF (hS.keep sQ zQ) (q_move rfl) ?_
   clear hF; intro a hF
   refine goW_take 1 _ rfl kQ rfl hF (hS.keep sQ zQ) (q_move rfl) ?_
   clear hF; intro a hF
   refine goW_take 2 _ rfl kQ rfl hF (hS.keep sQ zQ) (q_move rfl) ?_
   clear hF; intro a hF
   refine goW_take 3 _ rfl kQ rfl hF (hS.keep sQ zQ) (q_idx_sl ty24 ty75 hb rfl rfl (by omega)) ?_
   clear hF; intro a hF
   refine goW_take 4 _ rfl kQ rfl hF (hS.keep sQ zQ) (q_fld_F ty75 hb rfl (by omega) rfl (s' := 0) kQ) ?_
   clear hF; intro a hF
   refine goW_take 5 _ rfl kQ rfl hF (hS.keep sQ zQ) (q_ld_FK ty9 hb zin0 rfl rfl (by omega)) ?_
   clear hF; intro a hF
   refine goW_take 6 _ rfl kQ rfl hF (hS.keep sQ zQ) (q_move rfl) ?_
   clear hF; intro a hF
   refine goW_take 7 _ rfl kQ rfl hF (hS.keep sQ zQ) (q_move rfl) ?_
   clear hF; intro a hF
   refine goW_take 8 _ rfl kQ rfl hF (hS.keep sQ zQ) (q_idx_sl ty24 ty75 hb rfl rfl (by omega)) ?_
   clear hF; intro a hF
   refine goW_take 9 _ rfl kQ rfl hF (hS.keep sQ zQ) (q_fld_F ty75 hb rfl (by omega) rfl (s' := 0) kQ) ?_
   clear hF; intro a hF
   refine goW_take 10 _ rfl kQ rfl hF (hS.keep sQ zQ) (q_ld_FV ty9 hb zin0 rfl rfl (by omega)) ?_
   clear hF; intro a hF
   refine goW_take 11 _ rfl kQ rfl hF (hS.keep sQ zQ) (q_buildS1 ty41 2 kQ rfl rfl (oc_cons rfl (oc_cons rfl oc_nil)) rfl rfl) ?_
   clear hF; intro a hF
   refine gQ 12 rfl rfl hF hS rfl (ef_bsliceW ty33 ty41 rfl bQ (by decide) oQ (by decide) (by decide)) ?_
   clear hF hS; rintro v_5_12 _ _ a w ⟨rfl, rfl⟩ hF hS
   refine ⟨⟨iQ, iQ, .inr hS.k0, .inr hS.k0, .inr hS.k0, .inr hS.k0, iQ, .inr hS.k0, .inr hS.k0, .inr hS.k0, .inr hS.k0, .inr hS.k0, trivial⟩, ?_⟩
   refine gQ 13 rfl rfl hF hS rfl (ef_append ty33 ty41 1 rfl rfl rfl (src_row ty33 (k := 0) rfl oQ) bQ rfl (by decide)) ?_
   clear hF hS; rintro v_5_13 _ _ a w ⟨rfl, rfl⟩ hF hS
   refine ⟨⟨iQ, iQ, .inr hS.k0, .inr hS.k0, .inr hS.k0, .inr hS.k0, iQ, .inr hS.k0, .inr hS.k0, .inr hS.k0, .inr hS.k0, iQ, trivial⟩, ?_⟩
   refine goW_take 14 _ rfl kQ rfl hF (hS.keep sQ zQ) (q_assign rfl) ?_
   clear hF; intro a hF
   exact goW_done kQ (j2_mk v_5_12 v_5_13 (trivial) (hF.sub (L' := [(0, _), (3, _), (4, _)]) ⟨rfl, rfl, rfl, trivial⟩) hS)
  rintro a w ⟨v_5_12, v_5_13, -, hF, hS⟩
  (try dsimp only at hF); (try dsimp only at hS)
  refine hK7 _ _ ?_
  clear hK7
  refine reg hF hS (sq rfl (q_move rfl) <|
    sq rfl (q_addi rfl rfl (by omega)) <|
    sq rfl (q_assign rfl) <|
    sq_end) ?_
  clear hF hS; intro a w hF hS
  replace hS := hS.keep zQ (sQ.n)
  refine ⟨(v_5_13, i + 1), ?_, ?_, hF.sub ⟨rfl, rfl, rfl, trivial⟩, ?_⟩
  ·(try dsimp only); omega
  ·omega
  ·(try dsimp only); rw [show (i + 1).toNat = i.toNat + 1 by omega, Mk.take_snoc kv0 (by omega), List.flatMap_append, List.length_append]; exact hS
 ·obtain rfl : i = ls.length := by omega
  rw [Int.toNat_natCast, List.take_length] at hS
  refine wp_exit ?_
  refine hK3 _ _ ?_
  clear hK3
  refine wp_seq_k ?_; intro K8 hK8
  refine reg hF hS (sq rfl (q_move rfl) <|
    sq rfl (q_assign rfl) <|
    sq_end) ?_
  clear hF hS; intro a w hF hS
  refine hK8 _ _ ?_
  clear hK8
  refine wp_ret ?_
  obtain ⟨zr, hzr, hS⟩ := St.freezeF (xs := ls) (hS.rowEq (m' := List.length (ls)) (cs' := List.flatMap kvC (ls)) (rfl) (rfl)) rfl (by omega) (hkv)
  exact fn_ret (rs := [.tmp 2]) rfl hF hS (vs := [_]) ⟨rfl, trivial⟩ (zs' := [zr]) (hs' := []) (List.singleton_sublist.2 (by simp)) zQ ⟨zr, hzr, rfl, rfl⟩

set_option maxRecDepth 4000 in
set_option maxHeartbeats 2000000 in
theorem plain_ct (v : Value) (ls : List Mk.Lf) (hl : ls.length < 1048576) (w : World) (hb : Sl encF (ph w) v ls) : Ct Tryd.prog 18 [v] w (SlR encF ls) := by
 refine fn_enter Tryd.func18 rfl Tryd.ntmps18 (Nat.le_of_ble_eq_true rfl) fun a hF hS => ?_
 have hbl := hb.1
 have hkv := F_all hb
 have hkt : ∀ (m : Nat), (ls.take m).length ≤ 1048576 := fun m => by rw [List.length_take]; omega
 refine wp_seq_k ?_; intro K1 hK1
 refine reg hF hS (sq rfl (q_assign rfl) <|
   sq_end) ?_
 clear hF hS; intro a w hF hS
 refine hK1 _ _ ?_
 clear hK1
 refine wp_seq_k ?_; intro K2 hK2
 refine reg hF hS (sq rfl (q_assign rfl) <|
   sq_end) ?_
 clear hF hS; intro a w hF hS
 replace hS := hS.nilRow 75 2
 refine hK2 _ _ ?_
 clear hK2
 refine wp_seq_k ?_; intro K3 hK3
 refine wp_seq_k ?_; intro K4 hK4
 refine reg hF hS (sq rfl (q_assign rfl) <|
   sq_end) ?_
 clear hF hS; intro a w hF hS
 refine hK4 _ _ ?_
 clear hK4
 refine wp_block ?_
 obtain ⟨hs0, hhs0, hS⟩ : ∃ h, h = _ ∧ St _ _ h _ := ⟨_, rfl, hS⟩
 refine wp_loopx (γ := Value × Int) ((Value.slice none 0 0), 0) (fun (gg : Value × Int) => match gg with | (u, i) => [(3, u), (4, vi i)]) [(0, _)] (fun (gg : Value × Int) => match gg with | (u, i) => (hs0.set 0 (.row u 75 2 (ls.take i.toNat).length ((ls.take i.toNat).flatMap kvC)))) (fun (gg : Value × Int) => match gg with | (u, i) => 0 ≤ i ∧ i ≤ ls.length) (fun (gg : Value × Int) => match gg with | (u, i) => (ls.length - i).toNat) (hF.sub ⟨rfl, rfl, rfl, trivial⟩) (by subst hhs0; exact hS) (by exact ⟨Int.le_refl _, by omega⟩) ?_
 clear hF hS; rintro ⟨u, i⟩ a w hfact hF hS
 subst hhs0; (try dsimp only at hfact); (try dsimp only at hF); (try dsimp only at hS)
 obtain ⟨hi0, hi1⟩ := hfact
 replace hS : St _ [] [_] _ := hS
 have htl : (ls.take i.toNat).length = i.toNat := by rw [List.length_take]; omega
 refine wp_seq_k ?_; intro K5 hK5
 refine wp_seq_k ?_; intro K6 hK6
 refine reg hF hS (sq rfl (q_move rfl) <|
   sq rfl (q_move rfl) <|
   sq rfl (q_len_sl ty33 hb rfl) <|
   sq rfl (q_lti rfl rfl) <|
   sq_end) ?_
 clear hF hS; intro a w hF hS
 refine hK6 _ _ ?_
 clear hK6
 refine wp_ifd hF rfl (fun hc1 => ?_) (fun hc1 => ?_)
 ·refine wp_skip ?_
  refine hK5 _ _ ?_
  clear hK5
  refine wp_seq_k ?_; intro K7 hK7
  refine wp_block ?_
  revert hS; revert hF; apply regJ (J := J2 (α0 := Value) (α1 := Value) 26 _ _ _ _ _) #[false, false, false, false, false, false, false, false, false, false, false, false, false, false, false] 15 mixed rfl rfl
  ·intro w hF hS
   refine goW_take 0 _ rfl kQ rfl hF (hS.keep sQ zQ) (q_move rfl) ?_
   clear hF; intro a hF
   refine goW_take 1 _ rfl kQ rfl hF (hS.keep sQ zQ) (q_move rfl) ?_
   clear hF; intro a hF
   refine goW_take 2 _ rfl kQ rfl hF (hS.keep sQ zQ) (q_move rfl) ?_
   clear hF; intro a hF
   refine goW_take 3 _ rfl kQ rfl hF (hS.keep sQ zQ) (q_idx_sl ty33 ty41 hb rfl rfl (by omega)) ?_
   clear hF; intro a hF
   refine goW_take 4 _ rfl kQ rfl hF (hS.keep sQ zQ) (q_fld_F ty41 hb rfl (by omega) rfl (s' := 0) kQ) ?_
   clear hF; intro a hF
   refine goW_take 5 _ rfl kQ rfl hF (hS.keep sQ zQ) (q_ld_FK ty9 hb zin0 rfl rfl (by omega)) ?_
   clear hF; intro a hF
   refine goW_take 6 _ rfl kQ rfl hF (hS.keep sQ zQ) (q_move rfl) ?_
   clear hF; intro a hF
   refine goW_take 7 _ rfl kQ rfl hF (hS.keep sQ zQ) (q_move rfl) ?_
   clear hF; intro a hF
   refine goW_take 8 _ rfl kQ rfl hF (hS.keep sQ zQ) (q_idx_sl ty33 ty41 hb rfl rfl (by omega)) ?_
   clear hF; intro a hF
   refine goW_take 9 _ rfl kQ rfl hF (hS.keep sQ zQ) (q_fld_F ty41 hb rfl (by omega) rfl (s' := 0) kQ) ?_
   clear hF; intro a hF
   refine goW_take 10 _ rfl kQ rfl hF (hS.keep sQ zQ) (q_ld_FV ty9 hb zin0 rfl rfl (by omega)) ?_
   clear hF; intro a hF
   refine goW_take 11 _ rfl kQ rfl hF (hS.keep sQ zQ) (q_buildS1 ty75 2 kQ rfl rfl (oc_cons rfl (oc_cons rfl oc_nil)) rfl rfl) ?_
   clear hF; intro a hF
   refine gQ 12 rfl rfl hF hS rfl (ef_bsliceW ty24 ty75 rfl bQ (by decide) oQ (by decide) (by decide)) ?_
   clear hF hS; rintro v_5_12 _ _ a w ⟨rfl, rfl⟩ hF hS
   refine ⟨⟨iQ, iQ, .inr hS.k0, .inr hS.k0, .inr hS.k0, .inr hS.k0, iQ, .inr hS.k0, .inr hS.k0, .inr hS.k0, .inr hS.k0, .inr hS.k0, trivial⟩, ?_⟩
   refine gQ 13 rfl rfl hF hS rfl (ef_append ty24 ty75 1 rfl rfl rfl (src_row ty24 (k := 0) rfl oQ) bQ rfl (by decide)) ?_
   clear hF hS; rintro v_5_13 _ _ a w ⟨rfl, rfl⟩ hF hS
   refine ⟨⟨iQ, iQ, .inr hS.k0, .inr hS.k0, .inr hS.k0, .inr hS.k0, iQ, .inr hS.k0, .inr hS.k0, .inr hS.k0, .inr hS.k0, iQ, trivial⟩, ?_⟩
   refine goW_take 14 _ rfl kQ rfl hF (hS.keep sQ zQ) (q_assign rfl) ?_
   clear hF; intro a hF
   exact goW_done kQ (j2_mk v_5_12 v_5_13 (trivial) (hF.sub (L' := [(0, _), (3, _), (4, _)]) ⟨rfl, rfl, rfl, trivial⟩) hS)
  rintro a w ⟨v_5_12, v_5_13, -, hF, hS⟩
  (try dsimp only at hF); (try dsimp only at hS)
  refine hK7 _ _ ?_
  clear hK7
  refine reg hF hS (sq rfl (q_move rfl) <|
    sq rfl (q_addi rfl rfl (by omega)) <|
    sq rfl (q_assign rfl) <|
    sq_end) ?_
  clear hF hS; intro a w hF hS
  replace hS := hS.keep zQ (sQ.n)
  refine ⟨(v_5_13, i + 1), ?_, ?_, hF.sub ⟨rfl, rfl, rfl, trivial⟩, ?_⟩
  ·(try dsimp only); omega
  ·omega
  ·(try dsimp only); rw [show (i + 1).toNat = i.toNat + 1 by omega, Mk.take_snoc kv0 (by omega), List.flatMap_append, List.length_append]; exact hS
 ·obtain rfl : i = ls.length := by omega
  rw [Int.toNat_natCast, List.take_length] at hS
  refine wp_exit ?_
  refine hK3 _ _ ?_
  clear hK3
  refine wp_seq_k ?_; intro K8 hK8
  refine reg hF hS (sq rfl (q_move rfl) <|
    sq rfl (q_assign rfl) <|
    sq_end) ?_
  clear hF hS; intro a w hF hS
  refine hK8 _ _ ?_
  clear hK8
  refine wp_ret ?_
  obtain ⟨zr, hzr, hS⟩ := St.freezeF (xs := ls) (hS.rowEq (m' := List.length (ls)) (cs' := List.flatMap kvC (ls)) (rfl) (rfl)) rfl (by omega) (hkv)
  exact fn_ret (rs := [.tmp 2]) rfl hF hS (vs := [_]) ⟨rfl, trivial⟩ (zs' := [zr]) (hs' := []) (List.singleton_sublist.2 (by simp)) zQ ⟨zr, hzr, rfl, rfl⟩

set_option maxRecDepth 4000 in
set_option maxHeartbeats 2000000 in
theorem samel_ct (v1 v2 : Value) (xa xb : List Mk.Lf) (w : World) (hb1 : Sl encF (ph w) v1 xa) (hb2 : Sl encF (ph w) v2 xb) : Ct Tryd.prog 34 [v1, v2] w (fun r _ _ => r = .bool (decide (xa = xb))) := by
 refine fn_enter Tryd.func34 rfl Tryd.ntmps34 (Nat.le_of_ble_eq_true rfl) fun a hF hS => ?_
 have hla := hb1.1
 have hlb := hb2.1
 refine wp_seq_k ?_; intro K1 hK1
 refine reg hF hS (sq rfl (q_assign rfl) <|
   sq_end) ?_
 clear hF hS; intro a w hF hS
 refine hK1 _ _ ?_
 clear hK1
 refine wp_seq_k ?_; intro K2 hK2
 refine wp_seq_k ?_; intro K3 hK3
 refine reg hF hS (sq rfl (q_move rfl) <|
   sq rfl (q_len_sl ty24 hb1 rfl) <|
   sq rfl (q_move rfl) <|
   sq rfl (q_len_sl ty24 hb2 rfl) <|
   sq rfl (q_nei rfl rfl) <|
   sq_end) ?_
 clear hF hS; intro a w hF hS
 refine hK3 _ _ ?_
 clear hK3
 refine wp_ifn hF rfl (fun hc1 => ?_) (fun hc1 => ?_)
 ·refine wp_seq_k ?_; intro K4 hK4
  refine reg hF hS (sq rfl (q_assign rfl) <|
    sq_end) ?_
  clear hF hS; intro a w hF hS
  refine hK4 _ _ ?_
  clear hK4
  refine wp_ret ?_
  exact fn_ret (rs := [.tmp 4]) rfl hF hS (vs := [_]) ⟨rfl, trivial⟩ zQ zQ (Ls.same_len hc1)
 ·refine wp_skip ?_
  refine hK2 _ _ ?_
  clear hK2
  refine wp_seq_k ?_; intro K5 hK5
  refine wp_seq_k ?_; intro K6 hK6
  refine reg hF hS (sq rfl (q_assign rfl) <|
    sq_end) ?_
  clear hF hS; intro a w hF hS
  refine hK6 _ _ ?_
  clear hK6
  refine wp_block ?_
  obtain ⟨hs0, hhs0, hS⟩ : ∃ h, h = _ ∧ St _ _ h _ := ⟨_, rfl, hS⟩
  refine wp_loopx (γ := Int) (0) (fun (i : Int) => [(5, vi i)]) [(0, _), (1, _)] (fun (i : Int) => hs0) (fun (i : Int) => 0 ≤ i ∧ i ≤ xa.length ∧ xa.take i.toNat = xb.take i.toNat) (fun (i : Int) => (xa.length - i).toNat) (hF.sub ⟨rfl, rfl, rfl, trivial⟩) (by subst hhs0; exact hS) (by exact ⟨Int.le_refl _, by omega, rfl⟩) ?_
  clear hF hS; rintro i a w hfact hF hS
  subst hhs0; (try dsimp only at hfact); (try dsimp only at hF); (try dsimp only at hS)
  obtain ⟨hi0, hi1, htk⟩ := hfact
  replace hS : St _ [] [] _ := hS
  refine wp_seq_k ?_; intro K7 hK7
  refine wp_seq_k ?_; intro K8 hK8
  refine reg hF hS (sq rfl (q_move rfl) <|
    sq rfl (q_move rfl) <|
    sq rfl (q_len_sl ty24 hb1 rfl) <|
    sq rfl (q_lti rfl rfl) <|
    sq_end) ?_
  clear hF hS; intro a w hF hS
  refine hK8 _ _ ?_
  clear hK8
  refine wp_ifd hF rfl (fun hc2 => ?_) (fun hc2 => ?_)
  ·have hi2 : i < xb.length := by omega
   refine wp_skip ?_
   refine hK7 _ _ ?_
   clear hK7
   refine wp_seq_k ?_; intro K9 hK9
   refine wp_block ?_
   refine wp_seq_k ?_; intro K10 hK10
   refine regq mixed kQ hS ?_
   refine wpq_seg hF (sq rfl (q_move rfl) <|
     sq rfl (q_move rfl) <|
     sq rfl (q_idx_sl ty24 ty75 hb1 rfl rfl (by omega)) <|
     sq rfl (q_fld_F ty75 hb1 rfl (by omega) rfl (s' := 0) kQ) <|
     sq rfl (q_ld_FK ty9 hb1 zin0 rfl rfl (by omega)) <|
     sq rfl (q_move rfl) <|
     sq rfl (q_move rfl) <|
     sq rfl (q_idx_sl ty24 ty75 hb2 rfl rfl (by omega)) <|
     sq rfl (q_fld_F ty75 hb2 rfl (by omega) rfl (s' := 0) kQ) <|
     sq rfl (q_ld_FK ty9 hb2 zin0 rfl rfl (by omega)) <|
     sq rfl (q_nes rfl rfl) <|
     sq rfl (q_move rfl) <|
     sq_end) ?_
   clear hF; intro a hF
   refine wpq_or 11 28 11 hF rfl rfl rfl rfl rfl (fun hg => have hg := (nd_false hg); sq_go 28 rfl rfl rfl (q_move rfl) <|
     sq_go 28 rfl rfl rfl (q_move rfl) <|
     sq_go 28 rfl rfl rfl (q_idx_sl ty24 ty75 hb1 rfl rfl (by omega)) <|
     sq_go 28 rfl rfl rfl (q_fld_F ty75 hb1 rfl (by omega) rfl (s' := 0) kQ) <|
     sq_go 28 rfl rfl rfl (q_ld_FV ty9 hb1 zin0 rfl rfl (by omega)) <|
     sq_go 28 rfl rfl rfl (q_move rfl) <|
     sq_go 28 rfl rfl rfl (q_move rfl) <|
     sq_go 28 rfl rfl rfl (q_idx_sl ty24 ty75 hb2 rfl rfl (by omega)) <|
     sq_go 28 rfl rfl rfl (q_fld_F ty75 hb2 rfl (by omega) rfl (s' := 0) kQ) <|
     sq_go 28 rfl rfl rfl (q_ld_FV ty9 hb2 zin0 rfl rfl (by omega)) <|
     sq_go 28 rfl rfl rfl (q_nes rfl rfl) <|
     sq_end) rfl rfl ?_
   clear hF; intro a hF
   refine wpq_nil ?_
   clear hS; intro w hS
   refine hK10 _ _ ?_
   clear hK10
   refine wp_if hF rfl (fun hc3 => ?_) (fun hc3 => ?_)
   ·(try simp only [Bool.or_eq_true, Bool.and_eq_true, Bool.or_eq_false_iff, Bool.and_eq_false_iff, decide_eq_true_eq, decide_eq_false_iff_not, Bool.not_eq_true', Bool.not_eq_false'] at hc3)
    have hne : ¬ xa.getD i.toNat kv0 = xb.getD i.toNat kv0 := fun e => by rw [e] at hc3; simp at hc3
    refine wp_seq_k ?_; intro K11 hK11
    refine reg hF hS (sq rfl (q_assign rfl) <|
      sq_end) ?_
    clear hF hS; intro a w hF hS
    refine hK11 _ _ ?_
    clear hK11
    refine wp_ret ?_
    exact fn_ret (rs := [.tmp 4]) rfl hF hS (vs := [_]) ⟨rfl, trivial⟩ zQ zQ (Ls.same_ne kv0 hne)
   ·(try simp only [Bool.or_eq_true, Bool.and_eq_true, Bool.or_eq_false_iff, Bool.and_eq_false_iff, decide_eq_true_eq, decide_eq_false_iff_not, Bool.not_eq_true', Bool.not_eq_false'] at hc3)
    have heq : xa.getD i.toNat kv0 = xb.getD i.toNat kv0 := Prod.ext (by simpa using hc3.1) (by simpa using hc3.2)
    refine wp_skip ?_
    refine hK9 _ _ ?_
    clear hK9
    refine reg hF hS (sq rfl (q_move rfl) <|
      sq rfl (q_addi rfl rfl (by omega)) <|
      sq rfl (q_assign rfl) <|
      sq_end) ?_
    clear hF hS; intro a w hF hS
    refine ⟨(i + 1), ?_, ?_, hF.sub ⟨rfl, rfl, rfl, trivial⟩, ?_⟩
    ·(try dsimp only); omega
    ·refine ⟨by omega, by omega, Ls.same_step kv0 hi0 (by omega) hc1 heq htk⟩
    ·exact hS
  ·refine wp_exit ?_
   refine hK5 _ _ ?_
   clear hK5
   refine wp_seq_k ?_; intro K12 hK12
   refine reg hF hS (sq rfl (q_assign rfl) <|
     sq_end) ?_
   clear hF hS; intro a w hF hS
   refine hK12 _ _ ?_
   clear hK12
   refine wp_ret ?_
   exact fn_ret (rs := [.tmp 4]) rfl hF hS (vs := [_]) ⟨rfl, trivial⟩ zQ zQ (Ls.same_eq hc1 hc2 htk)
end Go.Proofs.YtdojfnigffeblaaDoor
