/- A text of a proof over this seat: walks over the program's functions and the plain laws that they need. -/
import Derived.Test.YtdojfnigffeblaaDoorMm12
import Derived.Test.YtdojfnigffeblaaDoorMkA
import Derived.Test.YtdojfnigffeblaaDoorFwB
set_option linter.all false
namespace Go.Proofs.YtdojfnigffeblaaDoor
open Go.Fw
theorem fn10 : FnOk Tryd.prog 10 := ⟨_, Tryd.func10, rfl, by kernel_rfl⟩
theorem fn19 : FnOk Tryd.prog 19 := ⟨_, Tryd.func19, rfl, by kernel_rfl⟩
theorem fn20 : FnOk Tryd.prog 20 := ⟨_, Tryd.func20, rfl, by kernel_rfl⟩

attribute [local irreducible] Sha.sum Sha.mac Sha.ofD Wi.int Wi.ints Wi.bytes Sha.inp Mk.half Lib.compareBytes Mk.frm Mk.rootD Mk.provE Mk.rangE Mk.rootE Mk.chkE Mk.chkR Mk.shown Mk.leavesL Mk.keyL Mk.keyB Mk.hasI Mk.inside Mk.bent Mk.coll Mk.vE Mk.rowD Gu.arnd

set_option maxRecDepth 4000 in
set_option maxHeartbeats 2000000 in
theorem mlaw4_ct (v : Value) (l : List Int) (k m : Int) (hk9 : -9223372036854775808 ≤ k ∧ k ≤ 9223372036854775807) (hm9 : -9223372036854775808 ≤ m ∧ m ≤ 9223372036854775807) (w : World) (hb : Sl encI (ph w) v l) {fz1 : Nat × Nat} {bt1 : TypeId} (hg1 : w.heap[2]? = some (.cells (Sha.kc.map vw).toArray bt1 fz1)) : Ct Tryd.prog 6 [v, vi k, vi m] w (fun r _ _ => r = .bool true) := by
 refine fn_enter Tryd.func6 rfl Tryd.ntmps6 (Nat.le_of_ble_eq_true rfl) fun a hF hS => ?_
 obtain ⟨X, hX⟩ : ∃ x, x = Mk.leavesL l := ⟨_, rfl⟩
 have hlbX := Mk.leaves_bd l
 have hvX := Mk.leaves_vE l
 rw [← hX] at hlbX hvX
 obtain ⟨hlnX, hlxX⟩ := hlbX
 obtain ⟨rtX, hrtX⟩ : ∃ x, x = (Mk.rootE X).1 := ⟨_, rfl⟩
 have hrlX : rtX.length = 16 := by rw [hrtX, Mk.rootE_n hvX]; exact Mk.rootD_16 _ _
 have hroX : Mk.rootE X = (rtX, 0) := by rw [hrtX, Mk.rootE_n hvX]
 have hrnX : (Mk.rootE X).1.length = 16 := by rw [← hrtX]; exact hrlX
 obtain ⟨ka, hka⟩ : ∃ x, x = Mk.keyL X k := ⟨_, rfl⟩
 have hklka : ka.length ≤ 8 := by rw [hka]; exact Nat.le_trans (Mk.keyL_len (fun x hx => (hlxX x hx).1) _) (by omega)
 obtain ⟨kb, hkb⟩ : ∃ x, x = Mk.keyL X m := ⟨_, rfl⟩
 have hklkb : kb.length ≤ 8 := by rw [hkb]; exact Nat.le_trans (Mk.keyL_len (fun x hx => (hlxX x hx).1) _) (by omega)
 obtain ⟨pa, va, ba, hpa, hc1a, hba, hbt, hbf⟩ := Mk.cpl_chk hvX ka
 obtain ⟨pb, ea, fa, La, hpb, hc2a, hrt2, hrf2⟩ := Mk.cpl_rng hvX ka kb
 rw [← hrtX] at hc1a hc2a
 have hsa := Mk.prov_sm (fun x hx => hlxX x hx |>.imp (fun h => Nat.le_trans h (Nat.le_succ 2)) id) ka
 rw [hpa] at hsa
 have hsda : pa.sd.length ≤ 11 := Nat.le_trans hsa.2.1 hlnX
 refine wp_seq_k ?_; intro K1 hK1
 refine reg hF hS (sq rfl (q_assign rfl) <|
   sq_end) ?_
 clear hF hS; intro a w hF hS
 refine hK1 _ _ ?_
 clear hK1
 refine wp_seq_k ?_; intro K2 hK2
 refine regl ?_
 refine wpl_sq hF hS (sq rfl (q_move rfl) <|
   sq_end) ?_
 clear hF hS; intro a w hF hS
 refine wpl_ef hF hS rfl (ef_call fn10 rfl (fun w hS => leaves_ct _ _ w (Sl.mono (hS.le zin0) hb))) ?_
 clear hF hS; rintro v1 _ _ a w ⟨_, _, rfl, rfl, ⟨z2, hz3, rfl, rfl⟩⟩ hF hS
 (try rw [← hX] at hF); rw [← hX] at hz3
 replace hS : St _ [_] [] _ := hS
 refine wpl_sq hF hS (sq rfl (q_assign rfl) <|
   sq_end) ?_
 clear hF hS; intro a w hF hS
 refine wpList_nil ?_
 refine hK2 _ _ ?_
 clear hK2
 refine wp_seq_k ?_; intro K3 hK3
 refine regl ?_
 refine wpl_sq hF hS (sq rfl (q_move rfl) <|
   sq_end) ?_
 clear hF hS; intro a w hF hS
 refine wpl_ef hF hS rfl (ef_call fn13 rfl (fun w hS => own_ct _ _ (by first | with_reducible assumption | omega | (simp; omega)) w (Sl.mono (hS.le (.inr (by simp))) hz3))) ?_
 clear hF hS; rintro v4 _ _ a w ⟨_, _, rfl, rfl, ⟨z5, hz6, rfl, rfl⟩⟩ hF hS
 replace hS : St _ [_, _] [] _ := hS
 refine wpl_sq hF hS (sq rfl (q_call fn12 rfl (fun w hS => mroot_ct _ _ w (Sl.mono (hS.le (.inr (by simp))) hz6) (hS.ext _ _ hg1)) (fun _ _ _ h => h)) <|
   sq rfl (q_move rfl) <|
   sq rfl (q_extract rfl rfl) <|
   sq rfl (q_extract rfl rfl) <|
   sq_end) ?_
 clear hF hS; intro a w hF hS
 refine wpl_ef hF hS rfl (ef_allocA ty29) ?_
 clear hF hS; rintro _ _ _ a w ⟨b7, rfl, rfl, rfl⟩ hF hS
 rw [show List.replicate 16 (Value.int .u8 0) = (List.replicate 16 (0 : UInt8)).map vb from by rw [List.map_replicate] <;> rfl] at hS
 refine wpl_ef hF hS rfl (ef_storeW ty29 0 rfl rfl rfl rfl bQ oQ bQ) ?_
 clear hF hS; rintro _ _ _ a w ⟨rfl, rfl, rfl⟩ hF hS
 replace hS : St _ [_, _] [_] _ := hS
 refine wpl_sq hF hS (sq rfl (q_assign rfl) <|
   sq_end) ?_
 clear hF hS; intro a w hF hS
 refine wpList_nil ?_
 rw [hroX] at hF hS; (try dsimp only at hF); (try dsimp only at hS)
 refine hK3 _ _ ?_
 clear hK3
 refine wp_seq_k ?_; intro K4 hK4
 refine reg hF hS (sq rfl (q_move rfl) <|
   sq rfl (q_move rfl) <|
   sq rfl (q_call fn20 rfl (fun w hS => keyL_ct _ _ _ (by omega) (fun x hx => by have := hlxX x hx; omega) (by omega) w (Sl.mono (hS.le (.inr (by simp))) hz3)) (fun _ _ _ h => h)) <|
   sq rfl (q_assign rfl) <|
   sq_end) ?_
 clear hF hS; intro a w hF hS
 (try rw [← hka] at hF)
 refine hK4 _ _ ?_
 clear hK4
 refine wp_seq_k ?_; intro K5 hK5
 refine reg hF hS (sq rfl (q_move rfl) <|
   sq rfl (q_move rfl) <|
   sq rfl (q_call fn20 rfl (fun w hS => keyL_ct _ _ _ (by omega) (fun x hx => by have := hlxX x hx; omega) (by omega) w (Sl.mono (hS.le (.inr (by simp))) hz3)) (fun _ _ _ h => h)) <|
   sq rfl (q_assign rfl) <|
   sq_end) ?_
 clear hF hS; intro a w hF hS
 (try rw [← hkb] at hF)
 refine hK5 _ _ ?_
 clear hK5
 refine wp_seq_k ?_; intro K6 hK6
 refine regl ?_
 refine wpl_sq hF hS (sq rfl (q_move rfl) <|
   sq_end) ?_
 clear hF hS; intro a w hF hS
 refine wpl_ef hF hS rfl (ef_call fn13 rfl (fun w hS => own_ct _ _ (by first | with_reducible assumption | omega | (simp; omega)) w (Sl.mono (hS.le (.inr (by simp))) hz3))) ?_
 clear hF hS; rintro v8 _ _ a w ⟨_, _, rfl, rfl, ⟨z9, hz10, rfl, rfl⟩⟩ hF hS
 replace hS : St _ [_, _, _] [_] _ := hS
 refine wpl_sq hF hS (sq rfl (q_move rfl) <|
   sq_end) ?_
 clear hF hS; intro a w hF hS
 refine wpl_ef hF hS rfl (ef_call fn22 rfl (fun w hS => prove_ct _ _ _ w (Sl.mono (hS.le (.inr (by simp))) hz10) (hS.ext _ _ hg1))) ?_
 clear hF hS; rintro _ _ _ a w ⟨_, _, rfl, rfl, ⟨l12, s13, z14, rfl, hl15, hs16, rfl, rfl⟩⟩ hF hS
 rw [hpa] at hF hl15 hs16; (try dsimp only at hF hl15 hs16)
 replace hS : St _ [_, _, _, _] [_] _ := hS
 refine wpl_sq hF hS (sq rfl (q_move rfl) <|
   sq rfl (q_extract rfl rfl) <|
   sq rfl (q_extract rfl rfl) <|
   sq_end) ?_
 clear hF hS; intro a w hF hS
 refine wpl_ef hF hS rfl (ef_allocA ty50) ?_
 clear hF hS; rintro _ _ _ a w ⟨b17, rfl, rfl, rfl⟩ hF hS
 refine wpl_ef hF hS rfl (ef_storeW ty50 0 rfl rfl rfl rfl bQ (oc_cons rfl (oc_cons rfl (oc_cons (sl_one' hl15) (oc_cons (sl_one' hs16) oc_nil)))) bQ) ?_
 clear hF hS; rintro _ _ _ a w ⟨rfl, rfl, rfl⟩ hF hS
 replace hS : St _ [_, _, _, _] [_, _] _ := hS
 refine wpl_sq hF hS (sq rfl (q_assign rfl) <|
   sq_end) ?_
 clear hF hS; intro a w hF hS
 refine wpList_nil ?_
 refine hK6 _ _ ?_
 clear hK6
 refine wp_seq_k ?_; intro K7 hK7
 refine reg hF hS (sq rfl (q_ld_blkW ty29 1 rfl rfl bQ rfl) <|
   sq rfl (q_move rfl) <|
   sq rfl (q_ld_blkW ty50 0 rfl rfl bQ rfl) <|
   sq rfl (q_call fn29 rfl (fun w hS => check_ct pa _ _ rtX ka (by first | with_reducible assumption | omega) w (Sl.mono (hS.le (.inr (by simp))) hl15) (Sl.mono (hS.le (.inr (by simp))) hs16) (hS.ext _ _ hg1)) (fun _ _ _ h => h)) <|
   sq rfl (q_move rfl) <|
   sq rfl (q_extract rfl rfl) <|
   sq rfl (q_extract rfl rfl) <|
   sq rfl (q_extract rfl rfl) <|
   sq rfl (q_assign rfl) <|
   sq rfl (q_assign rfl) <|
   sq rfl (q_assign rfl) <|
   sq_end) ?_
 clear hF hS; intro a w hF hS
 rw [hc1a] at hF; (try dsimp only at hF)
 refine hK7 _ _ ?_
 clear hK7
 refine wp_seq_k ?_; intro K8 hK8
 refine wp_seq_k ?_; intro K9 hK9
 refine regl ?_
 refine wpl_sq hF hS (sq rfl (q_move rfl) <|
   sq rfl (q_nei rfl rfl) <|
   sq rfl (q_move rfl) <|
   sq_end) ?_
 clear hF hS; intro a w hF hS
 refine wpl_or 2 53 2 hF hS rfl rfl rfl rfl rfl (fun hg => have hg := (nd_false hg); sq_go 53 rfl rfl rfl (q_move rfl) <|
   sq_go 53 rfl rfl rfl (q_nei rfl rfl) <|
   sq_end) rfl rfl ?_
 clear hF hS; intro a w hF hS
 refine wpl_sq hF hS (sq rfl (q_move rfl) <|
   sq_end) ?_
 clear hF hS; intro a w hF hS
 refine wpl_or 6 57 2 hF hS rfl rfl rfl rfl rfl (fun hg => have hg := hg; sq_go 57 rfl rfl rfl (q_move rfl) <|
   sq_go 57 rfl rfl rfl (q_nei rfl rfl) <|
   sq_end) rfl rfl ?_
 clear hF hS; intro a w hF hS
 refine wpl_sq hF hS (sq rfl (q_move rfl) <|
   sq_end) ?_
 clear hF hS; intro a w hF hS
 refine wpl_or 10 61 4 hF hS rfl rfl rfl rfl rfl (fun hg => have hg := hg; sq_go 61 rfl rfl rfl (q_fieldAddr ty50 rfl rfl (s' := 0) kQ) <|
   sq_go 61 rfl rfl rfl (q_ld_blk1 ty48 0 rfl rfl rfl rfl) <|
   sq_go 61 rfl rfl rfl (q_len_sl ty48 hs16 rfl) <|
   sq_go 61 rfl rfl rfl (q_gti rfl rfl) <|
   sq_end) rfl rfl ?_
 clear hF hS; intro a w hF hS
 refine wpList_nil ?_
 refine hK9 _ _ ?_
 clear hK9
 refine wp_if hF rfl (fun hc1 => ?_) (fun hc1 => ?_)
 ·(try simp only [Bool.or_eq_true, Bool.and_eq_true, Bool.or_eq_false_iff, Bool.and_eq_false_iff, decide_eq_true_eq, decide_eq_false_iff_not, Bool.not_eq_true', Bool.not_eq_false'] at hc1)
  exfalso; simp at hc1; omega
 ·(try simp only [Bool.or_eq_true, Bool.and_eq_true, Bool.or_eq_false_iff, Bool.and_eq_false_iff, decide_eq_true_eq, decide_eq_false_iff_not, Bool.not_eq_true', Bool.not_eq_false'] at hc1)
  refine wp_skip ?_
  refine hK8 _ _ ?_
  clear hK8
  refine wp_seq_k ?_; intro K10 hK10
  refine reg hF hS (sq rfl (q_move rfl) <|
    sq rfl (q_move rfl) <|
    sq rfl (q_call fn35 rfl (fun w hS => rhas_ct _ _ _ w (Sl.mono (hS.le (.inr (by simp))) hz3)) (fun _ _ _ h => h)) <|
    sq rfl (q_assign rfl) <|
    sq_end) ?_
  clear hF hS; intro a w hF hS
  refine hK10 _ _ ?_
  clear hK10
  refine wp_seq_k ?_; intro K11 hK11
  refine wp_seq_k ?_; intro K12 hK12
  refine reg hF hS (sq rfl (q_move rfl) <|
    sq rfl (q_move rfl) <|
    sq rfl (q_gei rfl rfl) <|
    sq rfl (q_net ty4 rfl rfl) <|
    sq_end) ?_
  clear hF hS; intro a w hF hS
  refine hK12 _ _ ?_
  clear hK12
  refine wp_if hF rfl (fun hc2 => ?_) (fun hc2 => ?_)
  ·rw [hba] at hc2; simp at hc2
  ·refine wp_skip ?_
   refine hK11 _ _ ?_
   clear hK11
   refine wp_seq_k ?_; intro K13 hK13
   refine wp_seq_k ?_; intro K14 hK14
   refine regl ?_
   refine wpl_sq hF hS (sq rfl (q_move rfl) <|
     sq rfl (q_move rfl) <|
     sq_end) ?_
   clear hF hS; intro a w hF hS
   refine wpl_and 1 75 8 hF hS rfl rfl rfl rfl rfl (fun hg => have hg := hg; sq_go 75 rfl rfl rfl (q_move rfl) <|
     sq_go 75 rfl rfl rfl (q_move rfl) <|
     sq_go 75 rfl rfl rfl (q_move rfl) <|
     sq_go 75 rfl rfl rfl (q_max rfl rfl) <|
     sq_go 75 rfl rfl rfl (q_idx_sl ty24 ty75 hz3 rfl rfl (hbt hg).2) <|
     sq_go 75 rfl rfl rfl (q_fld_F ty75 hz3 rfl (by have := (hbt hg).2; omega) rfl (s' := 0) kQ) <|
     sq_go 75 rfl rfl rfl (q_ld_FV ty9 hz3 (.inr (by simp)) rfl rfl (by have := (hbt hg).2; omega)) <|
     sq_go 75 rfl rfl rfl (q_nes rfl rfl) <|
     sq_end) rfl rfl ?_
   clear hF hS; intro a w hF hS
   refine wpl_sq hF hS (sq rfl (q_move rfl) <|
     sq_end) ?_
   clear hF hS; intro a w hF hS
   refine wpl_orG (q := (!ba && !decide (va = []))) 85 6 hF hS rfl (by rfl) rfl (fun _ => sq_skip 85 rfl rfl rfl rfl <|
     sq_skip 85 rfl rfl rfl rfl <|
     sq_skip 85 rfl rfl rfl rfl <|
     sq_skipu 88 rfl rfl rfl <|
     sq_skipu 88 rfl rfl rfl <|
     sq_skip 85 rfl rfl rfl rfl <|
     sq_end) rfl (fun hg a w hF hS KG => ?_) ?_
   ·have hg := hg
    refine wpl_sq hF hS (sq_go 85 rfl rfl rfl (q_move rfl) <|
      sq_go 85 rfl rfl rfl (q_not rfl) <|
      sq_go 85 rfl rfl rfl (q_move rfl) <|
      sq_end) ?_
    clear hF hS; intro a w hF hS
    refine wpl_andP 14 88 2 11 85 hF hS rfl rfl rfl rfl rfl rfl rfl (fun hg2 => have hg2 := hg2; sq_go 88 rfl rfl rfl (q_move rfl) <|
      sq_go 88 rfl rfl rfl (q_nes (q := []) rfl rfl) <|
      sq_end) rfl rfl ?_
    clear hF hS; intro a w hF hS
    refine wpl_sq hF hS (sq rfl (q_pick_f rfl rfl) <|
      sq_end) ?_
    clear hF hS; intro a w hF hS
    exact KG _ _ (hF.under 4 rfl rfl) hS
   clear hF hS; intro a w hF hS
   refine wpList_nil ?_
   refine hK14 _ _ ?_
   clear hK14
   refine wp_if hF rfl (fun hc3 => ?_) (fun hc3 => ?_)
   ·(try simp only [Bool.or_eq_true, Bool.and_eq_true, Bool.or_eq_false_iff, Bool.and_eq_false_iff, decide_eq_true_eq, decide_eq_false_iff_not, Bool.not_eq_true', Bool.not_eq_false'] at hc3)
    exfalso
    rcases hc3 with h | h
    ·exact h.2 (hbt h.1).1
    ·exact h.2 (hbf h.1)
   ·(try simp only [Bool.or_eq_true, Bool.and_eq_true, Bool.or_eq_false_iff, Bool.and_eq_false_iff, decide_eq_true_eq, decide_eq_false_iff_not, Bool.not_eq_true', Bool.not_eq_false'] at hc3)
    refine wp_skip ?_
    refine hK13 _ _ ?_
    clear hK13
    refine wp_seq_k ?_; intro K15 hK15
    refine regl ?_
    refine wpl_sq hF hS (sq rfl (q_move rfl) <|
      sq_end) ?_
    clear hF hS; intro a w hF hS
    refine wpl_ef hF hS rfl (ef_call fn13 rfl (fun w hS => own_ct _ _ (by first | with_reducible assumption | omega | (simp; omega)) w (Sl.mono (hS.le (.inr (by simp))) hz3))) ?_
    clear hF hS; rintro v18 _ _ a w ⟨_, _, rfl, rfl, ⟨z19, hz20, rfl, rfl⟩⟩ hF hS
    replace hS : St _ [_, _, _, _, _] [_, _] _ := hS
    refine wpl_sq hF hS (sq rfl (q_move rfl) <|
      sq rfl (q_move rfl) <|
      sq_end) ?_
    clear hF hS; intro a w hF hS
    refine wpl_ef hF hS rfl (ef_call fn24 rfl (fun w hS => range_ct _ _ _ _ w (Sl.mono (hS.le (.inr (by simp))) hz20) (hS.ext _ _ hg1))) ?_
    clear hF hS; rintro _ _ _ a w ⟨_, _, rfl, rfl, ⟨l22, s23, z24, rfl, hl25, hs26, rfl, rfl⟩⟩ hF hS
    rw [hpb] at hF hl25 hs26; (try dsimp only at hF hl25 hs26)
    replace hS : St _ [_, _, _, _, _, _] [_, _] _ := hS
    refine wpl_sq hF hS (sq rfl (q_move rfl) <|
      sq rfl (q_extract rfl rfl) <|
      sq rfl (q_extract rfl rfl) <|
      sq_end) ?_
    clear hF hS; intro a w hF hS
    refine wpl_ef hF hS rfl (ef_allocA ty50) ?_
    clear hF hS; rintro _ _ _ a w ⟨b27, rfl, rfl, rfl⟩ hF hS
    refine wpl_ef hF hS rfl (ef_storeW ty50 0 rfl rfl rfl rfl bQ (oc_cons rfl (oc_cons rfl (oc_cons (sl_one' hl25) (oc_cons (sl_one' hs26) oc_nil)))) bQ) ?_
    clear hF hS; rintro _ _ _ a w ⟨rfl, rfl, rfl⟩ hF hS
    replace hS : St _ [_, _, _, _, _, _] [_, _, _] _ := hS
    refine wpl_sq hF hS (sq rfl (q_assign rfl) <|
      sq_end) ?_
    clear hF hS; intro a w hF hS
    refine wpList_nil ?_
    refine hK15 _ _ ?_
    clear hK15
    refine wp_seq_k ?_; intro K16 hK16
    refine regl ?_
    refine wpl_sq hF hS (sq rfl (q_ld_blkW ty29 2 rfl rfl bQ rfl) <|
      sq rfl (q_move rfl) <|
      sq rfl (q_move rfl) <|
      sq rfl (q_ld_blkW ty50 0 rfl rfl bQ rfl) <|
      sq_end) ?_
    clear hF hS; intro a w hF hS
    refine wpl_ef hF hS rfl (ef_call fn32 rfl (fun w hS => chkr_ct pb _ _ rtX ka kb (by first | with_reducible assumption | omega) w (Sl.mono (hS.le (.inr (by simp))) hl25) (Sl.mono (hS.le (.inr (by simp))) hs26) (hS.ext _ _ hg1))) ?_
    clear hF hS; rintro _ _ _ a w ⟨_, _, rfl, rfl, ⟨v29, z30, hz31, rfl, rfl, rfl⟩⟩ hF hS
    rw [hc2a] at hF hz31; (try dsimp only at hF hz31)
    replace hS : St _ [_, _, _, _, _, _, _] [_, _, _] _ := hS
    refine wpl_sq hF hS (sq rfl (q_move rfl) <|
      sq rfl (q_extract rfl rfl) <|
      sq rfl (q_extract rfl rfl) <|
      sq rfl (q_assign rfl) <|
      sq rfl (q_assign rfl) <|
      sq_end) ?_
    clear hF hS; intro a w hF hS
    refine wpList_nil ?_
    refine hK16 _ _ ?_
    clear hK16
    refine wp_seq_k ?_; intro K17 hK17
    refine wp_seq_k ?_; intro K18 hK18
    refine reg hF hS (sq rfl (q_move rfl) <|
      sq rfl (q_move rfl) <|
      sq rfl (q_lts rfl rfl) <|
      sq_end) ?_
    clear hF hS; intro a w hF hS
    refine hK18 _ _ ?_
    clear hK18
    refine wp_if hF rfl (fun hc4 => ?_) (fun hc4 => ?_)
    ·obtain ⟨hea, hfa⟩ := hrt2 hc4
     subst hea; subst hfa
     refine wp_seq_k ?_; intro K19 hK19
     refine regl ?_
     refine wpl_sq hF hS (sq rfl (q_move rfl) <|
       sq rfl (q_eqi rfl rfl) <|
       sq rfl (q_move rfl) <|
       sq_end) ?_
     clear hF hS; intro a w hF hS
     refine wpl_and 2 114 2 hF hS rfl rfl rfl rfl rfl (fun hg => have hg := (by first | exact of_decide_eq_true hg | exact hg); sq_go 114 rfl rfl rfl (q_move rfl) <|
       sq_go 114 rfl rfl rfl (q_eqi rfl rfl) <|
       sq_end) rfl rfl ?_
     clear hF hS; intro a w hF hS
     refine wpl_sq hF hS (sq rfl (q_move rfl) <|
       sq_end) ?_
     clear hF hS; intro a w hF hS
     refine wpl_and 6 118 1 hF hS rfl rfl rfl rfl rfl (fun hg => have hg := hg; sq_go 118 rfl rfl rfl (q_call fn19 rfl (fun w hS => lives_ct w (hS.ext _ _ hg1)) (fun _ _ _ h => h)) <|
       sq_end) rfl rfl ?_
     clear hF hS; intro a w hF hS
     refine wpl_sq hF hS (sq rfl (q_assign rfl) <|
       sq_end) ?_
     clear hF hS; intro a w hF hS
     refine wpList_nil ?_
     refine hK19 _ _ ?_
     clear hK19
     refine wp_ret ?_
     exact fn_ret (rs := [.tmp 6]) rfl hF hS (vs := [_]) ⟨rfl, trivial⟩ zQ zQ (by simp)
    ·obtain ⟨hea, hfa, hLa⟩ := hrf2 hc4
     subst hea; subst hfa; subst hLa
     have hil : (Mk.inside X ka kb).length ≤ 11 := Nat.le_trans (Mk.inside_len X ka kb) hlnX
     refine wp_skip ?_
     refine hK17 _ _ ?_
     clear hK17
     refine wp_seq_k ?_; intro K20 hK20
     refine regl ?_
     refine wpl_sq hF hS (sq rfl (q_move rfl) <|
       sq rfl (q_dt (q_eqi rfl rfl) (by simp)) <|
       sq rfl (q_move rfl) <|
       sq_go 123 rfl rfl rfl (q_move rfl) <|
       sq_go 123 rfl rfl rfl (q_dt (q_eqi rfl rfl) (by simp)) <|
       sq rfl (q_pick_t rfl rfl) <|
       sq rfl (q_move rfl) <|
       sq_go 127 rfl rfl rfl (q_move rfl) <|
       sq_end) ?_
     clear hF hS; intro a w hF hS
     refine wpl_efg hF hS (wanted_go 127 rfl rfl) rfl (ef_call fn18 rfl (fun w hS => plain_ct _ _ (by first | with_reducible assumption | omega | (simp; omega)) w (Sl.mono (hS.le (.inr (by simp))) hz31))) ?_
     clear hF hS; rintro v32 _ _ a w ⟨_, _, rfl, rfl, ⟨z33, hz34, rfl, rfl⟩⟩ hF hS
     replace hS : St _ [_, _, _, _, _, _, _, _] [_, _, _] _ := hS
     refine wpl_sq hF hS (sq_go 127 rfl rfl rfl (q_move rfl) <|
       sq_go 127 rfl rfl rfl (q_move rfl) <|
       sq_go 127 rfl rfl rfl (q_move rfl) <|
       sq_end) ?_
     clear hF hS; intro a w hF hS
     refine wpl_efg hF hS (wanted_go 127 rfl rfl) rfl (ef_call fn36 rfl (fun w hS => inside_ct _ _ _ _ (by first | with_reducible assumption | omega | (simp; omega)) w (Sl.mono (hS.le (.inr (by simp))) hz3))) ?_
     clear hF hS; rintro v35 _ _ a w ⟨_, _, rfl, rfl, ⟨z36, hz37, rfl, rfl⟩⟩ hF hS
     replace hS : St _ [_, _, _, _, _, _, _, _, _] [_, _, _] _ := hS
     refine wpl_sq hF hS (sq_go 127 rfl rfl rfl (q_call fn34 rfl (fun w hS => samel_ct _ _ _ _ w (Sl.mono (hS.le (.inr (by simp))) hz34) (Sl.mono (hS.le (.inr (by simp))) hz37)) (fun _ _ _ h => h)) <|
       sq rfl (q_pick_t rfl rfl) <|
       sq rfl (q_move rfl) <|
       sq_end) ?_
     clear hF hS; intro a w hF hS
     refine wpl_and 15 136 1 hF hS rfl rfl rfl rfl rfl (fun hg => have hg := (by first | exact of_decide_eq_true hg | exact hg); sq_go 136 rfl rfl rfl (q_call fn19 rfl (fun w hS => lives_ct w (hS.ext _ _ hg1)) (fun _ _ _ h => h)) <|
       sq_end) rfl rfl ?_
     clear hF hS; intro a w hF hS
     refine wpl_sq hF hS (sq rfl (q_assign rfl) <|
       sq_end) ?_
     clear hF hS; intro a w hF hS
     refine wpList_nil ?_
     refine hK20 _ _ ?_
     clear hK20
     refine wp_ret ?_
     exact fn_ret (rs := [.tmp 6]) rfl hF hS (vs := [_]) ⟨rfl, trivial⟩ zQ zQ (by simp)
end Go.Proofs.YtdojfnigffeblaaDoor
