/- A text of a proof over this seat: walks over the program's functions and the plain laws that they need. -/
import Derived.Test.YtdojfnigffeblaaDoorMm5
import Derived.Test.YtdojfnigffeblaaDoorMkA
import Derived.Test.YtdojfnigffeblaaDoorFwB
set_option linter.all false
namespace Go.Proofs.YtdojfnigffeblaaDoor
open Go.Fw
theorem fn56 : FnOk Tryd.prog 56 := ⟨_, Tryd.func56, rfl, by kernel_rfl⟩
theorem fn57 : FnOk Tryd.prog 57 := ⟨_, Tryd.func57, rfl, by kernel_rfl⟩
attribute [local irreducible] Sha.sum Sha.mac Sha.ofD Wi.int Wi.ints Wi.bytes Sha.inp Mk.half Lib.compareBytes Mk.frm

set_option maxRecDepth 4000 in
set_option maxHeartbeats 2000000 in
theorem prove_ct (v : Value) (ls : List Mk.Lf) (k : List UInt8) (w : World) (hb : Sl encF (ph w) v ls) {fz1 : Nat × Nat} {bt1 : TypeId} (hg1 : w.heap[2]? = some (.cells (Sha.kc.map vw).toArray bt1 fz1)) : Ct Tryd.prog 22 [v, vs k] w (PfE (Mk.provE ls k).1 (Mk.provE ls k).2) := by
 refine fn_enter Tryd.func22 rfl Tryd.ntmps22 (Nat.le_of_ble_eq_true rfl) fun a hF hS => ?_
 have hbl := hb.1
 refine wp_seq_k ?_; intro K1 hK1
 refine regl ?_
 refine wpl_ef hF hS rfl (ef_allocA ty50) ?_
 clear hF hS; rintro _ _ _ a w ⟨b1, rfl, rfl, rfl⟩ hF hS
 refine wpl_sq hF hS (sq rfl (q_assign rfl) <|
   sq_end) ?_
 clear hF hS; intro a w hF hS
 refine wpList_nil ?_
 refine hK1 _ _ ?_
 clear hK1
 refine wp_seq_k ?_; intro K2 hK2
 refine wp_seq_k ?_; intro K3 hK3
 refine reg hF hS (sq rfl (q_move rfl) <|
   sq rfl (q_call fn15 rfl (fun w hS => valid_ct _ _ w (Sl.mono (hS.le zin0) hb)) (fun _ _ _ h => h)) <|
   sq rfl (q_assign rfl) <|
   sq_end) ?_
 clear hF hS; intro a w hF hS
 refine hK3 _ _ ?_
 clear hK3
 refine wp_seq_k ?_; intro K4 hK4
 refine reg hF hS (sq rfl (q_move rfl) <|
   sq rfl (q_nei rfl rfl) <|
   sq_end) ?_
 clear hF hS; intro a w hF hS
 refine hK4 _ _ ?_
 clear hK4
 refine wp_ifn hF rfl (fun hc1 => ?_) (fun hc1 => ?_)
 ·have hv0 : ¬ Mk.vE ls = 0 := by simpa using hc1
  refine wp_seq_k ?_; intro K5 hK5
  refine regl ?_
  refine wpl_sq hF hS (sq rfl (q_buildP (places := [(0, 1), (1, 1), (2, 1), (3, 1)]) (cells := [.int .i64 0, .int .i64 0, .slice none 0 0, .slice none 0 0]) ty50 kQ rfl (by rfl)) <|
    sq rfl (q_move rfl) <|
    sq_end) ?_
  clear hF hS; intro a w hF hS
  refine wpl_ef hF hS rfl (ef_storeW ty50 0 rfl rfl rfl rfl bQ (oc_cons rfl (oc_cons rfl (oc_cons rfl (oc_cons rfl oc_nil)))) bQ) ?_
  clear hF hS; rintro _ _ _ a w ⟨rfl, rfl, rfl⟩ hF hS
  replace hS : St _ [] [_] _ := hS
  refine wpl_sq hF hS (sq rfl (q_assign rfl) <|
    sq_end) ?_
  clear hF hS; intro a w hF hS
  refine wpList_nil ?_
  refine hK5 _ _ ?_
  clear hK5
  refine wp_ret ?_
  replace hS := hS.zone00
  replace hS : St _ [_] [_] _ := hS
  obtain ⟨zu, hzu, hS⟩ := hS.union
  exact fn_ret (rs := [.cell 4 50, .tmp 5]) rfl hF hS (vs := [_, _]) ⟨⟨_, _, _, _, _, _, _, rfl, List.mem_of_getElem? (i := 0) rfl, ty50, .inl ⟨rfl, bQ, rfl⟩⟩, rfl, trivial⟩ (zs' := [zu]) (hs' := []) (List.singleton_sublist.2 (by simp)) zQ (pe_of (q := Mk.pf0) ⟨_, _, zu, rfl, sl_nil, sl_nil, rfl, rfl⟩ (by rw [Mk.provE_e hv0]) (by rw [Mk.provE_e hv0]))
 ·have hv0 : Mk.vE ls = 0 := by simpa using hc1
  have hva := Mk.vE_asc hv0
  have hx9 : ∀ x ∈ ls, x.1.length < 1048576 ∧ x.2.length < 1048576 := fun x hx => by have := hva.2.2 x hx; omega
  have hfl := Mk.frm_le ls k
  refine wp_skip ?_
  refine hK2 _ _ ?_
  clear hK2
  refine wp_seq_k ?_; intro K6 hK6
  refine reg hF hS (sq rfl (q_move rfl) <|
    sq rfl (q_move rfl) <|
    sq rfl (q_call fn56 rfl (fun w hS => from_ct _ _ _ hva.1 (by omega) w (Sl.mono (hS.le zin0) hb)) (fun _ _ _ h => h)) <|
    sq rfl (q_assign rfl) <|
    sq_end) ?_
  clear hF hS; intro a w hF hS
  refine hK6 _ _ ?_
  clear hK6
  refine wp_seq_k ?_; intro K7 hK7
  refine wp_seq_k ?_; intro K8 hK8
  refine regl ?_
  refine wpl_sq hF hS (sq rfl (q_move rfl) <|
    sq rfl (q_move rfl) <|
    sq rfl (q_len_sl ty33 hb rfl) <|
    sq rfl (q_lti rfl rfl) <|
    sq rfl (q_move rfl) <|
    sq_end) ?_
  clear hF hS; intro a w hF hS
  refine wpl_and 4 21 7 hF hS rfl rfl rfl rfl rfl (fun hg => have hg := (by first | exact of_decide_eq_true hg | exact hg); sq_go 21 rfl rfl rfl (q_move rfl) <|
    sq_go 21 rfl rfl rfl (q_move rfl) <|
    sq_go 21 rfl rfl rfl (q_idx_sl ty33 ty41 hb rfl rfl (by omega)) <|
    sq_go 21 rfl rfl rfl (q_fld_F ty41 hb rfl (by omega) rfl (s' := 0) kQ) <|
    sq_go 21 rfl rfl rfl (q_ld_FK ty9 hb zin0 rfl rfl (by omega)) <|
    sq_go 21 rfl rfl rfl (q_move rfl) <|
    sq_go 21 rfl rfl rfl (q_eqs rfl rfl) <|
    sq_end) rfl rfl ?_
  clear hF hS; intro a w hF hS
  refine wpList_nil ?_
  refine hK8 _ _ ?_
  clear hK8
  refine wp_if hF rfl (fun hc2 => ?_) (fun hc2 => ?_)
  ·(try simp only [Bool.or_eq_true, Bool.and_eq_true, Bool.or_eq_false_iff, Bool.and_eq_false_iff, decide_eq_true_eq, decide_eq_false_iff_not, Bool.not_eq_true', Bool.not_eq_false'] at hc2)
   have hfd : Mk.fnd ls k = true := by
    simp only [Int.toNat_natCast] at hc2
    exact Mk.fnd_t (by omega) hc2.2
   have hfd2 := (Mk.fnd_iff.1 hfd).1
   refine wp_seq_k ?_; intro K9 hK9
   refine regl ?_
   refine wpl_sq hF hS (sq rfl (q_move rfl) <|
     sq rfl (q_move rfl) <|
     sq rfl (q_move rfl) <|
     sq rfl (q_addi rfl rfl (by omega)) <|
     sq_end) ?_
   clear hF hS; intro a w hF hS
   refine wpl_ef hF hS rfl (ef_call fn57 rfl (fun w hS => shown_ct _ ls (Mk.frm ls k) (Mk.frm ls k + 1) _ _ rfl (by omega) (by omega) hx9 (by omega) (by omega) w (Sl.mono (hS.le zin0) hb) (hS.ext _ _ hg1))) ?_
   clear hF hS; rintro _ _ _ a w ⟨_, _, rfl, rfl, ⟨l3, s4, z5, rfl, hl6, hs7, rfl, rfl⟩⟩ hF hS
   replace hS : St _ [_] [_] _ := hS
   refine wpl_ef hF hS rfl (ef_storeW ty50 0 rfl rfl rfl rfl bQ (oc_cons rfl (oc_cons rfl (oc_cons (sl_one' hl6) (oc_cons (sl_one' hs7) oc_nil)))) bQ) ?_
   clear hF hS; rintro _ _ _ a w ⟨rfl, rfl, rfl⟩ hF hS
   replace hS : St _ [_] [_] _ := hS
   refine wpl_sq hF hS (sq rfl (q_assign rfl) <|
     sq_end) ?_
   clear hF hS; intro a w hF hS
   refine wpList_nil ?_
   refine hK9 _ _ ?_
   clear hK9
   refine wp_ret ?_
   replace hS := hS.zone00
   replace hS : St _ [_, _] [_] _ := hS
   obtain ⟨zu, hzu, hS⟩ := hS.union
   exact fn_ret (rs := [.cell 4 50, .tmp 5]) rfl hF hS (vs := [_, _]) ⟨⟨_, _, _, _, _, _, _, rfl, List.mem_of_getElem? (i := 0) rfl, ty50, .inl ⟨rfl, bQ, rfl⟩⟩, rfl, trivial⟩ (zs' := [zu]) (hs' := []) (List.singleton_sublist.2 (by simp)) zQ (pe_of (q := Mk.shown ls (Mk.frm ls k) (Mk.frm ls k + 1)) ⟨_, _, zu, rfl, Sl.mono (hzu _ (by simp)) hl6, Sl.mono (hzu _ (by simp)) hs7, rfl, rfl⟩ (by rw [Mk.provE_t hv0 hfd]) (by rw [Mk.provE_t hv0 hfd]))
  ·(try simp only [Bool.or_eq_true, Bool.and_eq_true, Bool.or_eq_false_iff, Bool.and_eq_false_iff, decide_eq_true_eq, decide_eq_false_iff_not, Bool.not_eq_true', Bool.not_eq_false'] at hc2)
   have hfd : Mk.fnd ls k = false := by
    simp only [Int.toNat_natCast] at hc2
    exact Mk.fnd_f (fun h9 => by rcases hc2 with h | h; exact h (by omega); exact h h9.2)
   refine wp_skip ?_
   refine hK7 _ _ ?_
   clear hK7
   refine wp_seq_k ?_; intro K10 hK10
   refine regl ?_
   refine wpl_sq hF hS (sq rfl (q_move rfl) <|
     sq rfl (q_move rfl) <|
     sq rfl (q_subi rfl rfl (by omega)) <|
     sq rfl (q_max rfl rfl) <|
     sq rfl (q_move rfl) <|
     sq rfl (q_addi rfl rfl (by omega)) <|
     sq rfl (q_move rfl) <|
     sq rfl (q_len_sl ty33 hb rfl) <|
     sq rfl (q_min rfl rfl) <|
     sq_end) ?_
   clear hF hS; intro a w hF hS
   refine wpl_ef hF hS rfl (ef_call fn57 rfl (fun w hS => shown_ct _ ls (Mk.frm ls k - 1) (min (Mk.frm ls k + 1) ls.length) _ _ (by omega) (by omega) (by omega) hx9 (by omega) (by omega) w (Sl.mono (hS.le zin0) hb) (hS.ext _ _ hg1))) ?_
   clear hF hS; rintro _ _ _ a w ⟨_, _, rfl, rfl, ⟨l9, s10, z11, rfl, hl12, hs13, rfl, rfl⟩⟩ hF hS
   replace hS : St _ [_] [_] _ := hS
   refine wpl_ef hF hS rfl (ef_storeW ty50 0 rfl rfl rfl rfl bQ (oc_cons rfl (oc_cons rfl (oc_cons (sl_one' hl12) (oc_cons (sl_one' hs13) oc_nil)))) bQ) ?_
   clear hF hS; rintro _ _ _ a w ⟨rfl, rfl, rfl⟩ hF hS
   replace hS : St _ [_] [_] _ := hS
   refine wpl_sq hF hS (sq rfl (q_assign rfl) <|
     sq_end) ?_
   clear hF hS; intro a w hF hS
   refine wpList_nil ?_
   refine hK10 _ _ ?_
   clear hK10
   refine wp_ret ?_
   replace hS := hS.zone00
   replace hS : St _ [_, _] [_] _ := hS
   obtain ⟨zu, hzu, hS⟩ := hS.union
   exact fn_ret (rs := [.cell 4 50, .tmp 5]) rfl hF hS (vs := [_, _]) ⟨⟨_, _, _, _, _, _, _, rfl, List.mem_of_getElem? (i := 0) rfl, ty50, .inl ⟨rfl, bQ, rfl⟩⟩, rfl, trivial⟩ (zs' := [zu]) (hs' := []) (List.singleton_sublist.2 (by simp)) zQ (pe_of (q := Mk.shown ls (Mk.frm ls k - 1) (min (Mk.frm ls k + 1) ls.length)) ⟨_, _, zu, rfl, Sl.mono (hzu _ (by simp)) hl12, Sl.mono (hzu _ (by simp)) hs13, rfl, rfl⟩ (by rw [Mk.provE_f hv0 hfd]) (by rw [Mk.provE_f hv0 hfd]))

set_option maxRecDepth 4000 in
set_option maxHeartbeats 2000000 in
theorem range_ct (v : Value) (ls : List Mk.Lf) (k m : List UInt8) (w : World) (hb : Sl encF (ph w) v ls) {fz1 : Nat × Nat} {bt1 : TypeId} (hg1 : w.heap[2]? = some (.cells (Sha.kc.map vw).toArray bt1 fz1)) : Ct Tryd.prog 24 [v, vs k, vs m] w (PfE (Mk.rangE ls k m).1 (Mk.rangE ls k m).2) := by
 refine fn_enter Tryd.func24 rfl Tryd.ntmps24 (Nat.le_of_ble_eq_true rfl) fun a hF hS => ?_
 have hbl := hb.1
 refine wp_seq_k ?_; intro K1 hK1
 refine regl ?_
 refine wpl_ef hF hS rfl (ef_allocA ty50) ?_
 clear hF hS; rintro _ _ _ a w ⟨b1, rfl, rfl, rfl⟩ hF hS
 refine wpl_sq hF hS (sq rfl (q_assign rfl) <|
   sq_end) ?_
 clear hF hS; intro a w hF hS
 refine wpList_nil ?_
 refine hK1 _ _ ?_
 clear hK1
 refine wp_seq_k ?_; intro K2 hK2
 refine wp_seq_k ?_; intro K3 hK3
 refine reg hF hS (sq rfl (q_move rfl) <|
   sq rfl (q_call fn15 rfl (fun w hS => valid_ct _ _ w (Sl.mono (hS.le zin0) hb)) (fun _ _ _ h => h)) <|
   sq rfl (q_assign rfl) <|
   sq_end) ?_
 clear hF hS; intro a w hF hS
 refine hK3 _ _ ?_
 clear hK3
 refine wp_seq_k ?_; intro K4 hK4
 refine reg hF hS (sq rfl (q_move rfl) <|
   sq rfl (q_nei rfl rfl) <|
   sq_end) ?_
 clear hF hS; intro a w hF hS
 refine hK4 _ _ ?_
 clear hK4
 refine wp_ifn hF rfl (fun hc1 => ?_) (fun hc1 => ?_)
 ·have hv0 : ¬ Mk.vE ls = 0 := by simpa using hc1
  refine wp_seq_k ?_; intro K5 hK5
  refine regl ?_
  refine wpl_sq hF hS (sq rfl (q_buildP (places := [(0, 1), (1, 1), (2, 1), (3, 1)]) (cells := [.int .i64 0, .int .i64 0, .slice none 0 0, .slice none 0 0]) ty50 kQ rfl (by rfl)) <|
    sq rfl (q_move rfl) <|
    sq_end) ?_
  clear hF hS; intro a w hF hS
  refine wpl_ef hF hS rfl (ef_storeW ty50 0 rfl rfl rfl rfl bQ (oc_cons rfl (oc_cons rfl (oc_cons rfl (oc_cons rfl oc_nil)))) bQ) ?_
  clear hF hS; rintro _ _ _ a w ⟨rfl, rfl, rfl⟩ hF hS
  replace hS : St _ [] [_] _ := hS
  refine wpl_sq hF hS (sq rfl (q_assign rfl) <|
    sq_end) ?_
  clear hF hS; intro a w hF hS
  refine wpList_nil ?_
  refine hK5 _ _ ?_
  clear hK5
  refine wp_ret ?_
  replace hS := hS.zone00
  replace hS : St _ [_] [_] _ := hS
  obtain ⟨zu, hzu, hS⟩ := hS.union
  exact fn_ret (rs := [.cell 6 50, .tmp 7]) rfl hF hS (vs := [_, _]) ⟨⟨_, _, _, _, _, _, _, rfl, List.mem_of_getElem? (i := 0) rfl, ty50, .inl ⟨rfl, bQ, rfl⟩⟩, rfl, trivial⟩ (zs' := [zu]) (hs' := []) (List.singleton_sublist.2 (by simp)) zQ (pe_of (q := Mk.pf0) ⟨_, _, zu, rfl, sl_nil, sl_nil, rfl, rfl⟩ (by rw [Mk.rangE_e hv0]) (by rw [Mk.rangE_e hv0]))
 ·have hv0 : Mk.vE ls = 0 := by simpa using hc1
  have hva := Mk.vE_asc hv0
  have hx9 : ∀ x ∈ ls, x.1.length < 1048576 ∧ x.2.length < 1048576 := fun x hx => by have := hva.2.2 x hx; omega
  have hfl := Mk.frm_le ls k
  have hfm := Mk.frm_le ls m
  refine wp_skip ?_
  refine hK2 _ _ ?_
  clear hK2
  refine wp_seq_k ?_; intro K6 hK6
  refine wp_seq_k ?_; intro K7 hK7
  refine reg hF hS (sq rfl (q_move rfl) <|
    sq rfl (q_move rfl) <|
    sq rfl (q_lts rfl rfl) <|
    sq_end) ?_
  clear hF hS; intro a w hF hS
  refine hK7 _ _ ?_
  clear hK7
  refine wp_if hF rfl (fun hc2 => ?_) (fun hc2 => ?_)
  ·have hlm : Mk.lt m k = true := hc2
   refine wp_seq_k ?_; intro K8 hK8
   refine regl ?_
   refine wpl_sq hF hS (sq rfl (q_buildP (places := [(0, 1), (1, 1), (2, 1), (3, 1)]) (cells := [.int .i64 0, .int .i64 0, .slice none 0 0, .slice none 0 0]) ty50 kQ rfl (by rfl)) <|
     sq_end) ?_
   clear hF hS; intro a w hF hS
   refine wpl_ef hF hS rfl (ef_storeW ty50 0 rfl rfl rfl rfl bQ (oc_cons rfl (oc_cons rfl (oc_cons rfl (oc_cons rfl oc_nil)))) bQ) ?_
   clear hF hS; rintro _ _ _ a w ⟨rfl, rfl, rfl⟩ hF hS
   replace hS : St _ [] [_] _ := hS
   refine wpl_sq hF hS (sq rfl (q_assign rfl) <|
     sq_end) ?_
   clear hF hS; intro a w hF hS
   refine wpList_nil ?_
   refine hK8 _ _ ?_
   clear hK8
   refine wp_ret ?_
   replace hS := hS.zone00
   replace hS : St _ [_] [_] _ := hS
   obtain ⟨zu, hzu, hS⟩ := hS.union
   exact fn_ret (rs := [.cell 6 50, .tmp 7]) rfl hF hS (vs := [_, _]) ⟨⟨_, _, _, _, _, _, _, rfl, List.mem_of_getElem? (i := 0) rfl, ty50, .inl ⟨rfl, bQ, rfl⟩⟩, rfl, trivial⟩ (zs' := [zu]) (hs' := []) (List.singleton_sublist.2 (by simp)) zQ (pe_of (q := Mk.pf0) ⟨_, _, zu, rfl, sl_nil, sl_nil, rfl, rfl⟩ (by rw [Mk.rangE_t hv0 hlm]) (by rw [Mk.rangE_t hv0 hlm]))
  ·have hlm : Mk.lt m k = false := hc2
   have hmo := Mk.frm_mono (ls := ls) hlm
   refine wp_skip ?_
   refine hK6 _ _ ?_
   clear hK6
   refine wp_seq_k ?_; intro K9 hK9
   refine regl ?_
   refine wpl_sq hF hS (sq rfl (q_move rfl) <|
     sq rfl (q_move rfl) <|
     sq rfl (q_move rfl) <|
     sq rfl (q_call fn56 rfl (fun w hS => from_ct _ _ _ hva.1 (by omega) w (Sl.mono (hS.le zin0) hb)) (fun _ _ _ h => h)) <|
     sq rfl (q_subi rfl rfl (by omega)) <|
     sq rfl (q_max rfl rfl) <|
     sq rfl (q_move rfl) <|
     sq rfl (q_move rfl) <|
     sq rfl (q_call fn56 rfl (fun w hS => from_ct _ _ _ hva.1 (by omega) w (Sl.mono (hS.le zin0) hb)) (fun _ _ _ h => h)) <|
     sq rfl (q_addi rfl rfl (by omega)) <|
     sq rfl (q_move rfl) <|
     sq rfl (q_len_sl ty33 hb rfl) <|
     sq rfl (q_min rfl rfl) <|
     sq_end) ?_
   clear hF hS; intro a w hF hS
   refine wpl_ef hF hS rfl (ef_call fn57 rfl (fun w hS => shown_ct _ ls (Mk.frm ls k - 1) (min (Mk.frm ls m + 1) ls.length) _ _ (by omega) (by omega) (by omega) hx9 (by omega) (by omega) w (Sl.mono (hS.le zin0) hb) (hS.ext _ _ hg1))) ?_
   clear hF hS; rintro _ _ _ a w ⟨_, _, rfl, rfl, ⟨l3, s4, z5, rfl, hl6, hs7, rfl, rfl⟩⟩ hF hS
   replace hS : St _ [_] [_] _ := hS
   refine wpl_ef hF hS rfl (ef_storeW ty50 0 rfl rfl rfl rfl bQ (oc_cons rfl (oc_cons rfl (oc_cons (sl_one' hl6) (oc_cons (sl_one' hs7) oc_nil)))) bQ) ?_
   clear hF hS; rintro _ _ _ a w ⟨rfl, rfl, rfl⟩ hF hS
   replace hS : St _ [_] [_] _ := hS
   refine wpl_sq hF hS (sq rfl (q_assign rfl) <|
     sq_end) ?_
   clear hF hS; intro a w hF hS
   refine wpList_nil ?_
   refine hK9 _ _ ?_
   clear hK9
   refine wp_ret ?_
   replace hS := hS.zone00
   replace hS : St _ [_, _] [_] _ := hS
   obtain ⟨zu, hzu, hS⟩ := hS.union
   exact fn_ret (rs := [.cell 6 50, .tmp 7]) rfl hF hS (vs := [_, _]) ⟨⟨_, _, _, _, _, _, _, rfl, List.mem_of_getElem? (i := 0) rfl, ty50, .inl ⟨rfl, bQ, rfl⟩⟩, rfl, trivial⟩ (zs' := [zu]) (hs' := []) (List.singleton_sublist.2 (by simp)) zQ (pe_of (q := Mk.shown ls (Mk.frm ls k - 1) (min (Mk.frm ls m + 1) ls.length)) ⟨_, _, zu, rfl, Sl.mono (hzu _ (by simp)) hl6, Sl.mono (hzu _ (by simp)) hs7, rfl, rfl⟩ (by rw [Mk.rangE_f hv0 hlm]) (by rw [Mk.rangE_f hv0 hlm]))

set_option maxRecDepth 4000 in
set_option maxHeartbeats 2000000 in
theorem own_ct (v : Value) (ls : List Mk.Lf) (hl : ls.length < 1048576) (w : World) (hb : Sl encF (ph w) v ls) : Ct Tryd.prog 13 [v] w (SlR encF ls) := by
 refine fn_enter Tryd.func13 rfl Tryd.ntmps13 (Nat.le_of_ble_eq_true rfl) fun a hF hS => ?_
 have hbl := hb.1
 have hkv := F_all hb
 have hkt : ∀ (m : Nat), (ls.take m).length ≤ 1048576 := fun m => by rw [List.length_take]; omega
 refine wp_seq_k ?_; intro K1 hK1
 refine reg hF hS (sq rfl (q_assign rfl) <|
   sq_end) ?_
 clear hF hS; intro a w hF hS
 refine hK1 _ _ ?_
 clear hK1
 refine wp_seq_k ?_; intro K2 hK2
 refine reg hF hS (sq rfl (q_assign rfl) <|
   sq_end) ?_
 clear hF hS; intro a w hF hS
 replace hS := hS.nilRow 41 2
 refine hK2 _ _ ?_
 clear hK2
 refine wp_seq_k ?_; intro K3 hK3
 refine wp_seq_k ?_; intro K4 hK4
 refine reg hF hS (sq rfl (q_assign rfl) <|
   sq_end) ?_
 clear hF hS; intro a w hF hS
 refine hK4 _ _ ?_
 clear hK4
 refine wp_block ?_
 obtain ⟨hs0, hhs0, hS⟩ : ∃ h, h = _ ∧ St _ _ h _ := ⟨_, rfl, hS⟩
 refine wp_loopx (γ := Value × Int) ((Value.slice none 0 0), 0) (fun (gg : Value × Int) => match gg with | (u, i) => [(3, u), (4, vi i)]) [(0, _)] (fun (gg : Value × Int) => match gg with | (u, i) => (hs0.set 0 (.row u 41 2 (ls.take i.toNat).length ((ls.take i.toNat).flatMap kvC)))) (fun (gg : Value × Int) => match gg with | (u, i) => 0 ≤ i ∧ i ≤ ls.length) (fun (gg : Value × Int) => match gg with | (u, i) => (ls.length - i).toNat) (hF.sub ⟨rfl, rfl, rfl, trivial⟩) (by subst hhs0; exact hS) (by exact ⟨Int.le_refl _, by omega⟩) ?_
 clear hF hS; rintro ⟨u, i⟩ a w hfact hF hS
 subst hhs0; (try dsimp only at hfact); (try dsimp only at hF); (try dsimp only at hS)
 obtain ⟨hi0, hi1⟩ := hfact
 replace hS : St _ [] [_] _ := hS
 have htl : (ls.take i.toNat).length = i.toNat := by rw [List.length_take]; omega
 refine wp_seq_k ?_; intro K5 hK5
 refine wp_seq_k ?_; intro K6 hK6
 refine reg hF hS (sq rfl (q_move rfl) <|
   sq rfl (q_move rfl) <|
   sq rfl (q_len_sl ty24 hb rfl) <|
   sq rfl (q_lti rfl rfl) <|
   sq_end) ?_
 clear hF hS; intro a w hF hS
 refine hK6 _ _ ?_
 clear hK6
 refine wp_ifd hF rfl (fun hc1 => ?_) (fun hc1 => ?_)
 ·refine wp_skip ?_
  refine hK5 _ _ ?_
  clear hK5
  refine wp_seq_k ?_; intro K7 hK7
  refine wp_block ?_
  revert hS; revert hF; apply regJ (J := J2 (α0 := Value) (α1 := Value) 26 _ _ _ _ _) #[false, false, false, false, false, false, false, false, false, false, false, false, false, false, false] 15 mixed rfl rfl
  ·intro w hF hS
   refine goW_take 0 _ rfl kQ rfl hF (hS.keep sQ zQ) (q_move rfl) ?_
   clear hF; intro a hF
   refine goW_take 1 _ rfl kQ rfl hF (hS.keep sQ zQ) (q_move rfl) ?_
   clear hF; intro a hF
   refine goW_take 2 _ rfl kQ rfl hF (hS.keep sQ zQ) (q_move rfl) ?_
   clear hF; intro a hF
   refine goW_take 3 _ rfl kQ rfl hF (hS.keep sQ zQ) (q_idx_sl ty24 ty75 hb rfl rfl (by omega)) ?_
   clear hF; intro a hF
   refine goW_take 4 _ rfl kQ rfl hF (hS.keep sQ zQ) (q_fld_F ty75 hb rfl (by omega) rfl (s' := 0) kQ) ?_
   clear hF; intro a hF
   refine goW_take 5 _ rfl kQ rfl hF (hS.keep sQ zQ) (q_ld_FK ty9 hb zin0 rfl rfl (by omega)) ?_
   clear hF; intro a hF
   refine goW_take 6 _ rfl kQ rfl hF (hS.keep sQ zQ) (q_move rfl) ?_
   clear hF; intro a hF
   refine goW_take 7 _ rfl kQ rfl hF (hS.keep sQ zQ) (q_move rfl) ?_
   clear hF; intro a hF
   refine goW_take 8 _ rfl kQ rfl hF (hS.keep sQ zQ) (q_idx_sl ty24 ty75 hb rfl rfl (by omega)) ?_
   clear hF; intro a hF
   refine goW_take 9 _ rfl kQ rfl hF (hS.keep sQ zQ) (q_fld_F ty75 hb rfl (by omega) rfl (s' := 0) kQ) ?_
   clear hF; intro a hF
   refine goW_take 10 _ rfl kQ rfl hF (hS.keep sQ zQ) (q_ld_FV ty9 hb zin0 rfl rfl (by omega)) ?_
   clear hF; intro a hF
   refine goW_take 11 _ rfl kQ rfl hF (hS.keep sQ zQ) (q_buildS1 ty41 2 kQ rfl rfl (oc_cons rfl (oc_cons rfl oc_nil)) rfl rfl) ?_
   clear hF; intro a hF
   refine gQ 12 rfl rfl hF hS rfl (ef_bsliceW ty33 ty41 rfl bQ (by decide) oQ (by decide) (by decide)) ?_
   clear hF hS; rintro v_5_12 _ _ a w ⟨rfl, rfl⟩ hF hS
   refine ⟨⟨iQ, iQ, .inr hS.k0, .inr hS.k0, .inr hS.k0, .inr hS.k0, iQ, .inr hS.k0, .inr hS.k0, .inr hS.k0, .inr hS.k0, .inr hS.k0, trivial⟩, ?_⟩
   refine gQ 13 rfl rfl hF hS rfl (ef_append ty33 ty41 1 rfl rfl rfl (src_row ty33 (k := 0) rfl oQ) bQ rfl (by decide)) ?_
   clear hF hS; rintro v_5_13 _ _ a w ⟨rfl, rfl⟩ hF hS
   refine ⟨⟨iQ, iQ, .inr hS.k0, .inr hS.k0, .inr hS.k0, .inr hS.k0, iQ, .inr hS.k0, .inr hS.k0, .inr hS.k0, .inr hS.k0, iQ, trivial⟩, ?_⟩
   refine goW_take 14 _ rfl kQ rfl hF (hS.keep sQ zQ) (q_assign rfl) ?_
   clear hF; intro a hF
   exact goW_done kQ (j2_mk v_5_12 v_5_13 (trivial) (hF.sub (L' := [(0, _), (3, _), (4, _)]) ⟨rfl, rfl, rfl, trivial⟩) hS)
  rintro a w ⟨v_5_12, v_5_13, -, hF, hS⟩
  (try dsimp only at hF); (try dsimp only at hS)
  refine hK7 _ _ ?_
  clear hK7
  refine reg hF hS (sq rfl (q_move rfl) <|
    sq rfl (q_addi rfl rfl (by omega)) <|
    sq rfl (q_assign rfl) <|
    sq_end) ?_
  clear hF hS; intro a w hF hS
  replace hS := hS.keep zQ (sQ.n)
  refine ⟨(v_5_13, i + 1), ?_, ?_, hF.sub ⟨rfl, rfl, rfl, trivial⟩, ?_⟩
  ·(try dsimp only); omega
  ·omega
  ·(try dsimp only); rw [show (i + 1).toNat = i.toNat + 1 by omega, Mk.take_snoc kv0 (by omega), List.flatMap_append, List.length_append]; exact hS
 ·obtain rfl : i = ls.length := by omega
  rw [Int.toNat_natCast, List.take_length] at hS
  refine wp_exit ?_
  refine hK3 _ _ ?_
  clear hK3
  refine wp_seq_k ?_; intro K8 hK8
  refine reg hF hS (sq rfl (q_move rfl) <|
    sq rfl (q_assign rfl) <|
    sq_end) ?_
  clear hF hS; intro a w hF hS
  refine hK8 _ _ ?_
  clear hK8
  refine wp_ret ?_
  obtain ⟨zr, hzr, hS⟩ := St.freezeF (xs := ls) (hS.rowEq (m' := List.length (ls)) (cs' := List.flatMap kvC (ls)) (rfl) (rfl)) rfl (by omega) (hkv)
  exact fn_ret (rs := [.tmp 2]) rfl hF hS (vs := [_]) ⟨rfl, trivial⟩ (zs' := [zr]) (hs' := []) (List.singleton_sublist.2 (by simp)) zQ ⟨zr, hzr, rfl, rfl⟩

set_option maxRecDepth 4000 in
set_option maxHeartbeats 2000000 in
theorem plain_ct (v : Value) (ls : List Mk.Lf) (hl : ls.length < 1048576) (w : World) (hb : Sl encF (ph w) v ls) : Ct Tryd.prog 18 [v] w (SlR encF ls) := by
 refine fn_enter Tryd.func18 rfl Tryd.ntmps18 (Nat.le_of_ble_eq_true rfl) fun a hF hS => ?_
 have hbl := hb.1
 have hkv := F_all hb
 have hkt : ∀ (m : Nat), (ls.take m).length ≤ 1048576 := fun m => by rw [List.length_take]; omega
 refine wp_seq_k ?_; intro K1 hK1
 refine reg hF hS (sq rfl (q_assign rfl) <|
   sq_end) ?_
 clear hF hS; intro a w hF hS
 refine hK1 _ _ ?_
 clear hK1
 refine wp_seq_k ?_; intro K2 hK2
 refine reg hF hS (sq rfl (q_assign rfl) <|
   sq_end) ?_
 clear hF hS; intro a w hF hS
 replace hS := hS.nilRow 75 2
 refine hK2 _ _ ?_
 clear hK2
 refine wp_seq_k ?_; intro K3 hK3
 refine wp_seq_k ?_; intro K4 hK4
 refine reg hF hS (sq rfl (q_assign rfl) <|
   sq_end) ?_
 clear hF hS; intro a w hF hS
 refine hK4 _ _ ?_
 clear hK4
 refine wp_block ?_
 obtain ⟨hs0, hhs0, hS⟩ : ∃ h, h = _ ∧ St _ _ h _ := ⟨_, rfl, hS⟩
 refine wp_loopx (γ := Value × Int) ((Value.slice none 0 0), 0) (fun (gg : Value × Int) => match gg with | (u, i) => [(3, u), (4, vi i)]) [(0, _)] (fun (gg : Value × Int) => match gg with | (u, i) => (hs0.set 0 (.row u 75 2 (ls.take i.toNat).length ((ls.take i.toNat).flatMap kvC)))) (fun (gg : Value × Int) => match gg with | (u, i) => 0 ≤ i ∧ i ≤ ls.length) (fun (gg : Value × Int) => match gg with | (u, i) => (ls.length - i).toNat) (hF.sub ⟨rfl, rfl, rfl, trivial⟩) (by subst hhs0; exact hS) (by exact ⟨Int.le_refl _, by omega⟩) ?_
 clear hF hS; rintro ⟨u, i⟩ a w hfact hF hS
 subst hhs0; (try dsimp only at hfact); (try dsimp only at hF); (try dsimp only at hS)
 obtain ⟨hi0, hi1⟩ := hfact
 replace hS : St _ [] [_] _ := hS
 have htl : (ls.take i.toNat).length = i.toNat := by rw [List.length_take]; omega
 refine wp_seq_k ?_; intro K5 hK5
 refine wp_seq_k ?_; intro K6 hK6
 refine reg hF hS (sq rfl (q_move rfl) <|
   sq rfl (q_move rfl) <|
   sq rfl (q_len_sl ty33 hb rfl) <|
   sq rfl (q_lti rfl rfl) <|
   sq_end) ?_
 clear hF hS; intro a w hF hS
 refine hK6 _ _ ?_
 clear hK6
 refine wp_ifd hF rfl (fun hc1 => ?_) (fun hc1 => ?_)
 ·refine wp_skip ?_
  refine hK5 _ _ ?_
  clear hK5
  refine wp_seq_k ?_; intro K7 hK7
  refine wp_block ?_
  revert hS; revert hF; apply regJ (J := J2 (α0 := Value) (α1 := Value) 26 _ _ _ _ _) #[false, false, false, false, false, false, false, false, false, false, false, false, false, false, false] 15 mixed rfl rfl
  ·intro w hF hS
   refine goW_take 0 _ rfl kQ rfl hF (hS.keep sQ zQ) (q_move rfl) ?_
   clear hF; intro a hF
   refine goW_take 1 _ rfl kQ rfl hF (hS.keep sQ zQ) (q_move rfl) ?_
   clear hF; intro a hF
   refine goW_take 2 _ rfl kQ rfl hF (hS.keep sQ zQ) (q_move rfl) ?_
   clear hF; intro a hF
   refine goW_take 3 _ rfl kQ rfl hF (hS.keep sQ zQ) (q_idx_sl ty33 ty41 hb rfl rfl (by omega)) ?_
   clear hF; intro a hF
   refine goW_take 4 _ rfl kQ rfl hF (hS.keep sQ zQ) (q_fld_F ty41 hb rfl (by omega) rfl (s' := 0) kQ) ?_
   clear hF; intro a hF
   refine goW_take 5 _ rfl kQ rfl hF (hS.keep sQ zQ) (q_ld_FK ty9 hb zin0 rfl rfl (by omega)) ?_
   clear hF; intro a hF
   refine goW_take 6 _ rfl kQ rfl hF (hS.keep sQ zQ) (q_move rfl) ?_
   clear hF; intro a hF
   refine goW_take 7 _ rfl kQ rfl hF (hS.keep sQ zQ) (q_move rfl) ?_
   clear hF; intro a hF
   refine goW_take 8 _ rfl kQ rfl hF (hS.keep sQ zQ) (q_idx_sl ty33 ty41 hb rfl rfl (by omega)) ?_
   clear hF; intro a hF
   refine goW_take 9 _ rfl kQ rfl hF (hS.keep sQ zQ) (q_fld_F ty41 hb rfl (by omega) rfl (s' := 0) kQ) ?_
   clear hF; intro a hF
   refine goW_take 10 _ rfl kQ rfl hF (hS.keep sQ zQ) (q_ld_FV ty9 hb zin0 rfl rfl (by omega)) ?_
   clear hF; intro a hF
   refine goW_take 11 _ rfl kQ rfl hF (hS.keep sQ zQ) (q_buildS1 ty75 2 kQ rfl rfl (oc_cons rfl (oc_cons rfl oc_nil)) rfl rfl) ?_
   clear hF; intro a hF
   refine gQ 12 rfl rfl hF hS rfl (ef_bsliceW ty24 ty75 rfl bQ (by decide) oQ (by decide) (by decide)) ?_
   clear hF hS; rintro v_5_12 _ _ a w ⟨rfl, rfl⟩ hF hS
   refine ⟨⟨iQ, iQ, .inr hS.k0, .inr hS.k0, .inr hS.k0, .inr hS.k0, iQ, .inr hS.k0, .inr hS.k0, .inr hS.k0, .inr hS.k0, .inr hS.k0, trivial⟩, ?_⟩
   refine gQ 13 rfl rfl hF hS rfl (ef_append ty24 ty75 1 rfl rfl rfl (src_row ty24 (k := 0) rfl oQ) bQ rfl (by decide)) ?_
   clear hF hS; rintro v_5_13 _ _ a w ⟨rfl, rfl⟩ hF hS
   refine ⟨⟨iQ, iQ, .inr hS.k0, .inr hS.k0, .inr hS.k0, .inr hS.k0, iQ, .inr hS.k0, .inr hS.k0, .inr hS.k0, .inr hS.k0, iQ, trivial⟩, ?_⟩
   refine goW_take 14 _ rfl kQ rfl hF (hS.keep sQ zQ) (q_assign rfl) ?_
   clear hF; intro a hF
   exact goW_done kQ (j2_mk v_5_12 v_5_13 (trivial) (hF.sub (L' := [(0, _), (3, _), (4, _)]) ⟨rfl, rfl, rfl, trivial⟩) hS)
  rintro a w ⟨v_5_12, v_5_13, -, hF, hS⟩
  (try dsimp only at hF); (try dsimp only at hS)
  refine hK7 _ _ ?_
  clear hK7
  refine reg hF hS (sq rfl (q_move rfl) <|
    sq rfl (q_addi rfl rfl (by omega)) <|
    sq rfl (q_assign rfl) <|
    sq_end) ?_
  clear hF hS; intro a w hF hS
  replace hS := hS.keep zQ (sQ.n)
  refine ⟨(v_5_13, i + 1), ?_, ?_, hF.sub ⟨rfl, rfl, rfl, trivial⟩, ?_⟩
  ·(try dsimp only); omega
  ·omega
  ·(try dsimp only); rw [show (i + 1).toNat = i.toNat + 1 by omega, Mk.take_snoc kv0 (by omega), List.flatMap_append, List.length_append]; exact hS
 ·obtain rfl : i = ls.length := by omega
  rw [Int.toNat_natCast, List.take_length] at hS
  refine wp_exit ?_
  refine hK3 _ _ ?_
  clear hK3
  refine wp_seq_k ?_; intro K8 hK8
  refine reg hF hS (sq rfl (q_move rfl) <|
    sq rfl (q_assign rfl) <|
    sq_end) ?_
  clear hF hS; intro a w hF hS
  refine hK8 _ _ ?_
  clear hK8
  refine wp_ret ?_
  obtain ⟨zr, hzr, hS⟩ := St.freezeF (xs := ls) (hS.rowEq (m' := List.length (ls)) (cs' := List.flatMap kvC (ls)) (rfl) (rfl)) rfl (by omega) (hkv)
  exact fn_ret (rs := [.tmp 2]) rfl hF hS (vs := [_]) ⟨rfl, trivial⟩ (zs' := [zr]) (hs' := []) (List.singleton_sublist.2 (by simp)) zQ ⟨zr, hzr, rfl, rfl⟩

end Go.Proofs.YtdojfnigffeblaaDoor
