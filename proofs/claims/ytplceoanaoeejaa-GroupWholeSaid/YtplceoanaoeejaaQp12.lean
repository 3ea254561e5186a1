/- A text of a proof over this seat: walks over the program's functions and the plain laws that they need. -/
import Derived.Test.YtplceoanaoeejaaQp11
import Derived.Test.YtplceoanaoeejaaGpA
import Derived.Test.YtplceoanaoeejaaFwC
import Derived.Test.YtplceoanaoeejaaFwB
set_option linter.all false
namespace Go.Proofs.Ytplceoanaoeejaa
open Go.Fw
theorem fn9 : FnOk Try.prog 9 := ⟨_, Try.func9, rfl, by kernel_rfl⟩
theorem fn10 : FnOk Try.prog 10 := ⟨_, Try.func10, rfl, by kernel_rfl⟩
theorem fn18 : FnOk Try.prog 18 := ⟨_, Try.func18, rfl, by kernel_rfl⟩
theorem fn27 : FnOk Try.prog 27 := ⟨_, Try.func27, rfl, by kernel_rfl⟩
theorem fn28 : FnOk Try.prog 28 := ⟨_, Try.func28, rfl, by kernel_rfl⟩
theorem fn29 : FnOk Try.prog 29 := ⟨_, Try.func29, rfl, by kernel_rfl⟩

set_option maxRecDepth 4000 in
set_option maxHeartbeats 2000000 in
theorem lawW_ct (v : Value) (l : List Int) (v2 : Value) (m : List Int) (w : World) (hl : Sl encI (ph w) v l) (hm : Sl encI (ph w) v2 m) : Ct Try.prog 6 [v, v2] w (fun r _ _ => r = .bool true) := by
 refine fn_enter Try.func6 rfl Try.ntmps6 (Nat.le_of_ble_eq_true rfl) fun a hF hS => ?_
 refine wp_seq_k ?_; intro K1 hK1
 refine reg hF hS (sq rfl (q_assign rfl) <|
   sq_end) ?_
 clear hF hS; intro a w hF hS
 refine hK1 _ _ ?_
 clear hK1
 refine wp_seq_k ?_; intro K2 hK2
 refine regl ?_
 refine wpl_sq hF hS (sq rfl (q_move rfl) <|
   sq_end) ?_
 clear hF hS; intro a w hF hS
 refine wpl_ef hF hS rfl (ef_call fn27 rfl (fun w hS => family_ct _ _ w (Sl.mono (hS.le zin0) hl))) ?_
 clear hF hS; rintro _ _ _ a w ⟨_, _, rfl, rfl, ⟨nvF, svF, bvF, ns, xs, xb, zF, rfl, hnF, hsF, hbF, lnF, lsF, lbF, leqF, rfl, rfl⟩⟩ hF hS
 replace hS : St _ [_] [] _ := hS
 refine wpl_ef hF hS rfl (ef_allocA ty33) ?_
 clear hF hS; rintro _ _ _ a w ⟨b2, rfl, rfl, rfl⟩ hF hS
 refine wpl_ef hF hS rfl (ef_storeW ty33 0 rfl rfl rfl rfl bQ (oc_cons (sl_one' hnF) (oc_cons (sl_one' hsF) (oc_cons (sl_one' hbF) oc_nil))) bQ) ?_
 clear hF hS; rintro _ _ _ a w ⟨rfl, rfl, rfl⟩ hF hS
 replace hS : St _ [_] [_] _ := hS
 refine wpList_nil ?_
 obtain ⟨heq, hfam, hpos⟩ := leqF
 refine hK2 _ _ ?_
 clear hK2
 refine wp_seq_k ?_; intro K3 hK3
 refine regl ?_
 refine wpl_sq hF hS (sq rfl (q_ld_blkW ty33 0 rfl rfl bQ rfl) <|
   sq rfl (q_call fn9 rfl (fun w hS => family9_ct _ _ _ _ _ w (sl_one' hnF) (Sl.mono (hS.le (.inr (by simp))) hsF) (Sl.mono (hS.le (.inr (by simp))) hbF)) (fun _ _ _ h => h)) <|
   sq_end) ?_
 clear hF hS; intro a w hF hS
 refine wpl_ef hF hS rfl (ef_allocA ty31) ?_
 clear hF hS; rintro _ _ _ a w ⟨b3, rfl, rfl, rfl⟩ hF hS
 refine wpl_ef hF hS rfl (ef_storeW ty31 0 rfl rfl rfl rfl bQ (oc_cons (sl_one' hnF) (oc_cons (sl_one' hsF) (oc_cons (sl_one' hbF) oc_nil))) bQ) ?_
 clear hF hS; rintro _ _ _ a w ⟨rfl, rfl, rfl⟩ hF hS
 replace hS : St _ [_] [_, _] _ := hS
 refine wpList_nil ?_
 refine hK3 _ _ ?_
 clear hK3
 refine wp_seq_k ?_; intro K4 hK4
 refine regl ?_
 refine wpl_sq hF hS (sq rfl (q_ld_blkW ty33 1 rfl rfl bQ rfl) <|
   sq rfl (q_move rfl) <|
   sq_end) ?_
 clear hF hS; intro a w hF hS
 refine wpl_ef hF hS rfl (ef_call fn28 rfl (fun w hS => made_ct _ _ _ _ _ _ _ (by omega) w (sl_one' hnF) (Sl.mono (hS.le (.inr (by simp))) hsF) (Sl.mono (hS.le (.inr (by simp))) hbF) (Sl.mono (hS.le zin0) hm))) ?_
 clear hF hS; rintro _ _ _ a w ⟨_, _, rfl, rfl, ⟨vD, mdB, mdC, zD, rfl, hzD, hmL, hmI, hmR, rfl, rfl⟩⟩ hF hS
 replace hS : St _ [_, _] [_, _] _ := hS
 refine wpl_sq hF hS (sq rfl (q_call fn10 rfl (fun w hS => queue_ct _ _ _ w (Sl.mono (hS.le (.inr (by simp))) hzD)) (fun _ _ _ h => h)) <|
   sq_end) ?_
 clear hF hS; intro a w hF hS
 refine wpl_ef hF hS rfl (ef_allocA ty35) ?_
 clear hF hS; rintro _ _ _ a w ⟨b5, rfl, rfl, rfl⟩ hF hS
 refine wpl_ef hF hS rfl (ef_storeW ty35 0 rfl rfl rfl rfl bQ (oc_cons rfl (oc_cons (sl_one' hzD) oc_nil)) bQ) ?_
 clear hF hS; rintro _ _ _ a w ⟨rfl, rfl, rfl⟩ hF hS
 replace hS : St _ [_, _] [_, _, _] _ := hS
 refine wpList_nil ?_
 refine hK4 _ _ ?_
 clear hK4
 refine wp_seq_k ?_; intro K5 hK5
 refine regl ?_
 refine wpl_sq hF hS (sq rfl (q_ld_blkW ty33 2 rfl rfl bQ rfl) <|
   sq rfl (q_move rfl) <|
   sq_end) ?_
 clear hF hS; intro a w hF hS
 refine wpl_ef hF hS rfl (ef_call fn29 rfl (fun w hS => marks_ct _ _ _ _ _ _ _ (by omega) w (sl_one' hnF) (Sl.mono (hS.le (.inr (by simp))) hsF) (Sl.mono (hS.le (.inr (by simp))) hbF) (Sl.mono (hS.le zin0) hm))) ?_
 clear hF hS; rintro vMk _ _ a w ⟨_, _, rfl, rfl, ⟨M, zE, hzE, hML, rfl, rfl⟩⟩ hF hS
 replace hS : St _ [_, _, _] [_, _, _] _ := hS
 refine wpl_sq hF hS (sq rfl (q_assign rfl) <|
   sq_end) ?_
 clear hF hS; intro a w hF hS
 refine wpList_nil ?_
 obtain ⟨hB, hC⟩ := hmI hpos
 obtain ⟨I9, hI9⟩ : ∃ i, i = Gp.ix xs mdB := ⟨_, rfl⟩
 have hix : 0 ≤ I9 ∧ I9 < xs.length := hI9 ▸ Gu.ixF_in hB
 have hv0 := Gp.vl_ok heq hmL hB hC
 refine hK5 _ _ ?_
 clear hK5
 refine wp_seq_k ?_; intro K6 hK6
 refine reg hF hS (sq rfl (q_ld_blkW ty31 1 rfl rfl bQ rfl) <|
   sq rfl (q_fieldAddr ty35 rfl rfl (s' := 0) kQ) <|
   sq rfl (q_ld_blk1 ty3 0 rfl rfl rfl rfl) <|
   sq rfl (q_call fn30 rfl (fun w hS => lix_ct _ _ _ _ _ _ w (sl_one' hnF) (Sl.mono (hS.le (.inr (by simp))) hsF) (Sl.mono (hS.le (.inr (by simp))) hbF)) (fun _ _ _ h => h)) <|
   sq rfl (q_assign rfl) <|
   sq_end) ?_
 clear hF hS; intro a w hF hS
 rw [show Gu.ixF (fun y => decide (mdB = y)) xs = I9 from hI9.symm] at hF
 refine hK6 _ _ ?_
 clear hK6
 refine wp_seq_k ?_; intro K7 hK7
 refine wp_seq_k ?_; intro K8 hK8
 refine reg hF hS (sq rfl (q_move rfl) <|
   sq rfl (q_df (q_lti rfl rfl) (by have := hix.1; omega)) <|
   sq rfl (q_move rfl) <|
   sq_go 33 rfl rfl rfl (q_move rfl) <|
   sq_go 33 rfl rfl rfl (q_move rfl) <|
   sq_go 33 rfl rfl rfl (q_len_sl ty29 hzE rfl) <|
   sq_go 33 rfl rfl rfl (q_df (q_gei rfl rfl) (by have := hix.2; omega)) <|
   sq rfl (q_pick_f rfl rfl) <|
   sq_end) ?_
 clear hF hS; intro a w hF hS
 refine hK8 _ _ ?_
 clear hK8
 refine wp_if hF rfl (fun h => absurd h (by simp)) (fun _ => ?_)
 refine wp_skip ?_
 refine hK7 _ _ ?_
 clear hK7
 refine wp_seq_k ?_; intro K9 hK9
 refine regl ?_
 refine wpl_sq hF hS (sq rfl (q_ld_blkW ty31 1 rfl rfl bQ rfl) <|
   sq rfl (q_ld_blkW ty35 0 rfl rfl bQ rfl) <|
   sq rfl (q_move rfl) <|
   sq_end) ?_
 clear hF hS; intro a w hF hS
 refine wpl_ef hF hS rfl (ef_call fn13 rfl (fun w hS => halved_ct _ _ _ _ _ _ _ _ _ _ w (sl_one' hnF) (Sl.mono (hS.le (.inr (by simp))) hsF) (Sl.mono (hS.le (.inr (by simp))) hbF) (Sl.mono (hS.le (.inr (by simp))) hzD) (Sl.mono (hS.le (.inr (by simp))) hzE))) ?_
 clear hF hS; rintro _ _ _ a w ⟨_, _, rfl, rfl, ⟨vT, vK, zT, hzT, hzK, rfl, rfl, rfl⟩⟩ hF hS
 replace hS : St _ [_, _, _, _] [_, _, _] _ := hS
 refine wpl_sq hF hS (sq rfl (q_move rfl) <|
   sq rfl (q_extract rfl rfl) <|
   sq rfl (q_extract rfl rfl) <|
   sq rfl (q_extract rfl rfl) <|
   sq rfl (q_assign rfl) <|
   sq rfl (q_assign rfl) <|
   sq rfl (q_assign rfl) <|
   sq_end) ?_
 clear hF hS; intro a w hF hS
 refine wpList_nil ?_
 obtain ⟨T, hTq⟩ : ∃ T, T = Gp.hT xs xb M mdB mdC := ⟨_, rfl⟩
 obtain ⟨A9, hAq⟩ : ∃ A, A = Gp.hA xs xb M mdB mdC := ⟨_, rfl⟩
 rw [← hTq] at hzT
 rw [← hAq] at hzK
 have hTl := hzT.1
 have hAl := hzK.1
 refine hK9 _ _ ?_
 clear hK9
 refine wp_seq_k ?_; intro K10 hK10
 refine wp_seq_k ?_; intro K11 hK11
 refine regl ?_
 refine wpl_sq hF hS (sq rfl (q_fieldAddr ty31 rfl rfl (s' := 0) kQ) <|
   sq rfl (q_ld_blk1 ty29 1 rfl rfl rfl rfl) <|
   sq rfl (q_move rfl) <|
   sq rfl (q_idx_sl ty29 ty4 hbF rfl rfl (by omega)) <|
   sq rfl (q_ld_T ty4 hbF (.inr (by simp)) rfl rfl (by omega)) <|
   sq rfl (q_not rfl) <|
   sq rfl (q_move rfl) <|
   sq_end) ?_
 clear hF hS; intro a w hF hS
 refine wpl_or 6 53 4 hF hS rfl rfl rfl rfl rfl (fun hg => have hg := hg; sq_go 53 rfl rfl rfl (q_move rfl) <|
   sq_go 53 rfl rfl rfl (q_move rfl) <|
   sq_go 53 rfl rfl rfl (q_idx_sl ty29 ty4 hzE rfl rfl (by omega)) <|
   sq_go 53 rfl rfl rfl (q_ld_T ty4 hzE (.inr (by simp)) rfl rfl (by omega)) <|
   sq_end) rfl rfl ?_
 clear hF hS; intro a w hF hS
 refine wpList_nil ?_
 refine hK11 _ _ ?_
 clear hK11
 refine wp_if hF rfl (fun hc2 => ?_) (fun hc2 => ?_)
 ·(try simp only [Bool.or_eq_true, Bool.and_eq_true, Bool.or_eq_false_iff, Bool.and_eq_false_iff, decide_eq_true_eq, decide_eq_false_iff_not, Bool.not_eq_true', Bool.not_eq_false'] at hc2)
  have ho8 : Gp.opn xs xb M mdB mdC = 8 := Gp.opn_8 hv0 hML (by unfold Gp.gd; rw [← hI9]; rcases hc2 with h | h; rw [h]; simp; rw [h]; simp)
  refine wp_seq_k ?_; intro K12 hK12
  refine reg hF hS (sq rfl (q_move rfl) <|
    sq rfl (q_dt (q_eqi rfl rfl) (ho8)) <|
    sq rfl (q_move rfl) <|
    sq_go 61 rfl rfl rfl (q_call fn18 rfl (fun w hS => lives_ct w ) (fun _ _ _ h => h)) <|
    sq rfl (q_pick_t rfl rfl) <|
    sq rfl (q_assign rfl) <|
    sq_end) ?_
  clear hF hS; intro a w hF hS
  refine hK12 _ _ ?_
  clear hK12
  refine wp_ret ?_
  exact fn_ret (rs := [.tmp 4]) rfl hF hS (vs := [_]) ⟨rfl, trivial⟩ zQ zQ (rfl)
 ·(try simp only [Bool.or_eq_true, Bool.and_eq_true, Bool.or_eq_false_iff, Bool.and_eq_false_iff, decide_eq_true_eq, decide_eq_false_iff_not, Bool.not_eq_true', Bool.not_eq_false'] at hc2)
  have ho : Gp.opn xs xb M mdB mdC = 0 := Gp.opn_ok hv0 hML (by unfold Gp.gd; rw [← hI9, decide_eq_true hix.1, hc2.1, hc2.2]; rfl)
  have hw := Gp.whole ho hTq hAq
  refine wp_skip ?_
  refine hK10 _ _ ?_
  clear hK10
  refine wp_seq_k ?_; intro K13 hK13
  refine reg hF hS (sq rfl (q_fieldAddr ty35 rfl rfl (s' := 0) kQ) <|
    sq rfl (q_ld_blk1 ty3 0 rfl rfl rfl rfl) <|
    sq rfl (q_assign rfl) <|
    sq_end) ?_
  clear hF hS; intro a w hF hS
  refine hK13 _ _ ?_
  clear hK13
  refine wp_seq_k ?_; intro K14 hK14
  refine wp_seq_k ?_; intro K15 hK15
  refine reg hF hS (sq rfl (q_assign rfl) <|
    sq_end) ?_
  clear hF hS; intro a w hF hS
  refine hK15 _ _ ?_
  clear hK15
  refine wp_block ?_
  obtain ⟨hs0, hhs0, hS⟩ : ∃ h, h = _ ∧ St _ _ h _ := ⟨_, rfl, hS⟩
  refine wp_loopx (γ := Int) (0) (fun (k : Int) => [(13, vi ((T.take k.toNat).foldl (Gp.fo mdC) mdB)), (14, vi k)]) [(6, _), (7, _), (8, _), (10, _), (11, _), (12, _)] (fun (k : Int) => hs0) (fun (k : Int) => 0 ≤ k ∧ k ≤ T.length) (fun (k : Int) => (T.length - k).toNat) (hF.sub ⟨rfl, rfl, rfl, rfl, rfl, rfl, rfl, rfl, trivial⟩) (by subst hhs0; exact hS) (by exact ⟨Int.le_refl _, by omega⟩) ?_
  clear hF hS; rintro k a w hfact hF hS
  subst hhs0; (try dsimp only at hfact); (try dsimp only at hF); (try dsimp only at hS)
  obtain ⟨hk0, hk1⟩ := hfact
  replace hS : St _ [_, _, _, _] [_, _, _] _ := hS
  refine wp_seq_k ?_; intro K16 hK16
  refine wp_seq_k ?_; intro K17 hK17
  refine reg hF hS (sq rfl (q_move rfl) <|
    sq rfl (q_move rfl) <|
    sq rfl (q_len_sl ty22 hzT rfl) <|
    sq rfl (q_lti rfl rfl) <|
    sq_end) ?_
  clear hF hS; intro a w hF hS
  refine hK17 _ _ ?_
  clear hK17
  refine wp_ifd hF rfl (fun hc3 => ?_) (fun hc3 => ?_)
  ·obtain ⟨ht0, ht1⟩ := hw.1 k.toNat (by omega)
   refine wp_skip ?_
   refine hK16 _ _ ?_
   clear hK16
   refine wp_seq_k ?_; intro K18 hK18
   refine wp_block ?_
   refine wp_seq_k ?_; intro K19 hK19
   refine wp_seq_k ?_; intro K20 hK20
   refine regq mixed kQ hS ?_
   refine wpq_seg hF (sq rfl (q_move rfl) <|
     sq rfl (q_move rfl) <|
     sq rfl (q_idx_sl ty22 ty3 hzT rfl rfl (by omega)) <|
     sq rfl (q_ld_I ty3 hzT (.inr (by simp)) rfl rfl (by omega)) <|
     sq rfl (q_lti rfl rfl) <|
     sq rfl (q_move rfl) <|
     sq_end) ?_
   clear hF; intro a hF
   refine wpq_or 5 77 8 hF rfl rfl rfl rfl rfl (fun hg => have hg := (by first | exact of_decide_eq_false hg | exact hg); sq_go 77 rfl rfl rfl (q_move rfl) <|
     sq_go 77 rfl rfl rfl (q_move rfl) <|
     sq_go 77 rfl rfl rfl (q_idx_sl ty22 ty3 hzT rfl rfl (by omega)) <|
     sq_go 77 rfl rfl rfl (q_ld_I ty3 hzT (.inr (by simp)) rfl rfl (by omega)) <|
     sq_go 77 rfl rfl rfl (q_fieldAddr ty35 rfl rfl (s' := 0) kQ) <|
     sq_go 77 rfl rfl rfl (q_ld_blk1 ty22 0 rfl rfl rfl rfl) <|
     sq_go 77 rfl rfl rfl (q_len_sl ty22 hzD rfl) <|
     sq_go 77 rfl rfl rfl (q_gei rfl rfl) <|
     sq_end) rfl rfl ?_
   clear hF; intro a hF
   refine wpq_seg hF (sq rfl (q_move rfl) <|
     sq_end) ?_
   clear hF; intro a hF
   refine wpq_orG (q := (decide (0 < k) && decide ((T.getD k.toNat 0) ≤ T.getD (max (k - 1) 0).toNat 0))) 87 15 hF rfl (by rfl) rfl (by exact trivial) (fun _ => sq_skip 87 rfl rfl rfl rfl <|
     sq_skip 87 rfl rfl rfl rfl <|
     sq_skip 87 rfl rfl rfl rfl <|
     sq_skipu 90 rfl rfl rfl <|
     sq_skipu 90 rfl rfl rfl <|
     sq_skipu 90 rfl rfl rfl <|
     sq_skipu 90 rfl rfl rfl <|
     sq_skipu 90 rfl rfl rfl <|
     sq_skipu 90 rfl rfl rfl <|
     sq_skipu 90 rfl rfl rfl <|
     sq_skipu 90 rfl rfl rfl <|
     sq_skipu 90 rfl rfl rfl <|
     sq_skipu 90 rfl rfl rfl <|
     sq_skipu 90 rfl rfl rfl <|
     sq_skip 87 rfl rfl rfl rfl <|
     sq_end) rfl (fun hg a hF KG => ?_) ?_
   ·have hg := hg
    refine wpq_seg hF (sq_go 87 rfl rfl rfl (q_move rfl) <|
      sq_go 87 rfl rfl rfl (q_gti rfl rfl) <|
      sq_go 87 rfl rfl rfl (q_move rfl) <|
      sq_end) ?_
    clear hF; intro a hF
    refine wpq_andP 18 90 11 15 87 hF rfl rfl rfl rfl rfl rfl rfl (fun hg => have hg := (by first | exact of_decide_eq_true hg | exact hg); sq_go 90 rfl rfl rfl (q_move rfl) <|
      sq_go 90 rfl rfl rfl (q_move rfl) <|
      sq_go 90 rfl rfl rfl (q_idx_sl ty22 ty3 hzT rfl rfl (by omega)) <|
      sq_go 90 rfl rfl rfl (q_ld_I ty3 hzT (.inr (by simp)) rfl rfl (by omega)) <|
      sq_go 90 rfl rfl rfl (q_move rfl) <|
      sq_go 90 rfl rfl rfl (q_move rfl) <|
      sq_go 90 rfl rfl rfl (q_subi rfl rfl (by omega)) <|
      sq_go 90 rfl rfl rfl (q_max rfl rfl) <|
      sq_go 90 rfl rfl rfl (q_idx_sl ty22 ty3 hzT rfl rfl (by omega)) <|
      sq_go 90 rfl rfl rfl (q_ld_I ty3 hzT (.inr (by simp)) rfl rfl (by omega)) <|
      sq_go 90 rfl rfl rfl (q_lei rfl rfl) <|
      sq_end) rfl rfl ?_
    clear hF; intro a hF
    refine wpq_seg hF (sq rfl (q_pick_f rfl rfl) <|
      sq_end) ?_
    clear hF; intro a hF
    exact KG _ (hF.under 4 rfl rfl)
   clear hF; intro a hF
   refine wpq_nil ?_
   clear hS; intro w hS
   refine hK20 _ _ ?_
   clear hK20
   refine wp_if hF rfl (fun hc4 => ?_) (fun hc4 => ?_)
   ·(try simp only [Bool.or_eq_true, Bool.and_eq_true, Bool.or_eq_false_iff, Bool.and_eq_false_iff, decide_eq_true_eq, decide_eq_false_iff_not, Bool.not_eq_true', Bool.not_eq_false'] at hc4)
    rcases hc4 with (h | h) | h
    ·omega
    ·omega
    ·have := ht1 (by omega)
     rw [show (max (k - 1) 0).toNat = k.toNat - 1 by omega] at h
     omega
   ·(try simp only [Bool.or_eq_true, Bool.and_eq_true, Bool.or_eq_false_iff, Bool.and_eq_false_iff, decide_eq_true_eq, decide_eq_false_iff_not, Bool.not_eq_true', Bool.not_eq_false'] at hc4)
    refine wp_skip ?_
    refine hK19 _ _ ?_
    clear hK19
    refine regd mixed kQ hF hS (sq rfl (q_move rfl) <|
      sq rfl (q_fieldAddr ty35 rfl rfl (s' := 0) kQ) <|
      sq rfl (q_ld_blk1 ty22 0 rfl rfl rfl rfl) <|
      sq rfl (q_move rfl) <|
      sq rfl (q_move rfl) <|
      sq rfl (q_idx_sl ty22 ty3 hzT rfl rfl (by omega)) <|
      sq rfl (q_ld_I ty3 hzT (.inr (by simp)) rfl rfl (by omega)) <|
      sq rfl (q_idx_sl ty22 ty3 hzD rfl rfl (by omega)) <|
      sq rfl (q_ld_I ty3 hzD (.inr (by simp)) rfl rfl (by omega)) <|
      sq rfl (q_ori rfl rfl) <|
      sq rfl (q_assign rfl) <|
      sq_end) ?_
    clear hF hS; intro a w hF hS
    refine hK18 _ _ ?_
    clear hK18
    refine reg hF hS (sq rfl (q_move rfl) <|
      sq rfl (q_addi rfl rfl (by omega)) <|
      sq rfl (q_assign rfl) <|
      sq_end) ?_
    clear hF hS; intro a w hF hS
    refine ⟨(k + 1), ?_, ?_, hF.sub ⟨(by rw [show (k + 1).toNat = k.toNat + 1 by omega, Gu.take_snoc' (by omega), List.foldl_append]; rfl), rfl, rfl, rfl, rfl, rfl, rfl, rfl, trivial⟩, ?_⟩
    ·(try dsimp only); omega
    ·(try dsimp only); omega
    ·exact hS
  ·obtain rfl : k = T.length := by omega
   rw [Int.toNat_natCast, List.take_length] at hF
   obtain ⟨S9, hS0⟩ : ∃ S9, S9 = T.foldl (Gp.fo mdC) mdB := ⟨_, rfl⟩
   rw [← hS0] at hF
   have hS9 := Gp.gd_use (hS0 ▸ hw.2.1)
   have hS8 := Gu.ixF_range (fun y => decide (S9 = y)) xs
   refine wp_exit ?_
   refine hK14 _ _ ?_
   clear hK14
   refine wp_seq_k ?_; intro K21 hK21
   refine reg hF hS (sq rfl (q_ld_blkW ty31 1 rfl rfl bQ rfl) <|
     sq rfl (q_move rfl) <|
     sq rfl (q_call fn30 rfl (fun w hS => lix_ct _ _ _ _ _ _ w (sl_one' hnF) (Sl.mono (hS.le (.inr (by simp))) hsF) (Sl.mono (hS.le (.inr (by simp))) hbF)) (fun _ _ _ h => h)) <|
     sq rfl (q_assign rfl) <|
     sq_end) ?_
   clear hF hS; intro a w hF hS
   obtain ⟨J9, hJ9⟩ : ∃ i, i = Gp.ix xs S9 := ⟨_, rfl⟩
   rw [show Gu.ixF (fun y => decide (S9 = y)) xs = J9 from hJ9.symm] at hF hS8
   rw [← hJ9] at hS9
   refine hK21 _ _ ?_
   clear hK21
   refine wp_seq_k ?_; intro K22 hK22
   refine wp_seq_k ?_; intro K23 hK23
   refine reg hF hS (sq rfl (q_move rfl) <|
     sq rfl (q_df (q_lti rfl rfl) (by have := hS9.1; omega)) <|
     sq rfl (q_move rfl) <|
     sq_go 119 rfl rfl rfl (q_move rfl) <|
     sq_go 119 rfl rfl rfl (q_move rfl) <|
     sq_go 119 rfl rfl rfl (q_len_sl ty29 hzE rfl) <|
     sq_go 119 rfl rfl rfl (q_df (q_gei rfl rfl) (by have := hS8.2; omega)) <|
     sq rfl (q_pick_f rfl rfl) <|
     sq_end) ?_
   clear hF hS; intro a w hF hS
   refine hK23 _ _ ?_
   clear hK23
   refine wp_if hF rfl (fun h => absurd h (by simp)) (fun _ => ?_)
   refine wp_skip ?_
   refine hK22 _ _ ?_
   clear hK22
   refine wp_seq_k ?_; intro K24 hK24
   refine reg hF hS (sq rfl (q_move rfl) <|
     sq rfl (q_dt (q_eqi rfl rfl) (ho)) <|
     sq rfl (q_move rfl) <|
     sq_go 127 rfl rfl rfl (q_fieldAddr ty31 rfl rfl (s' := 0) kQ) <|
     sq_go 127 rfl rfl rfl (q_ld_blk1 ty29 1 rfl rfl rfl rfl) <|
     sq_go 127 rfl rfl rfl (q_move rfl) <|
     sq_go 127 rfl rfl rfl (q_idx_sl ty29 ty4 hbF rfl rfl (by omega)) <|
     sq_go 127 rfl rfl rfl (q_bt (q_ld_T ty4 hbF (.inr (by simp)) rfl rfl (by omega)) (hS9.2.1)) <|
     sq rfl (q_pick_t rfl rfl) <|
     sq rfl (q_move rfl) <|
     sq_go 134 rfl rfl rfl (q_move rfl) <|
     sq_go 134 rfl rfl rfl (q_move rfl) <|
     sq_go 134 rfl rfl rfl (q_idx_sl ty29 ty4 hzE rfl rfl (by omega)) <|
     sq_go 134 rfl rfl rfl (q_ld_T ty4 hzE (.inr (by simp)) rfl rfl (by omega)) <|
     sq_go 134 rfl rfl rfl (q_bt (q_not rfl) (by rw [hS9.2.2]; rfl)) <|
     sq rfl (q_pick_t rfl rfl) <|
     sq rfl (q_move rfl) <|
     sq_go 141 rfl rfl rfl (q_ld_blkW ty31 1 rfl rfl bQ rfl) <|
     sq_go 141 rfl rfl rfl (q_ld_blkW ty35 0 rfl rfl bQ rfl) <|
     sq_go 141 rfl rfl rfl (q_move rfl) <|
     sq_go 141 rfl rfl rfl (q_move rfl) <|
     sq_go 141 rfl rfl rfl (q_move rfl) <|
     sq_go 141 rfl rfl rfl (q_call fn25 rfl (fun w hS => gcheck_ct _ _ _ _ _ _ _ _ _ _ _ _ _ _ w (sl_one' hnF) (Sl.mono (hS.le (.inr (by simp))) hsF) (Sl.mono (hS.le (.inr (by simp))) hbF) (Sl.mono (hS.le (.inr (by simp))) hzD) (Sl.mono (hS.le (.inr (by simp))) hzE) (Sl.mono (hS.le (.inr (by simp))) hzT) (Sl.mono (hS.le (.inr (by simp))) hzK)) (fun _ _ _ h => h)) <|
     sq_go 141 rfl rfl rfl (q_dt (q_eqi rfl rfl) (hw.2.2)) <|
     sq rfl (q_pick_t rfl rfl) <|
     sq rfl (q_move rfl) <|
     sq_go 150 rfl rfl rfl (q_call fn18 rfl (fun w hS => lives_ct w ) (fun _ _ _ h => h)) <|
     sq rfl (q_pick_t rfl rfl) <|
     sq rfl (q_assign rfl) <|
     sq_end) ?_
   clear hF hS; intro a w hF hS
   refine hK24 _ _ ?_
   clear hK24
   refine wp_ret ?_
   exact fn_ret (rs := [.tmp 4]) rfl hF hS (vs := [_]) ⟨rfl, trivial⟩ zQ zQ (rfl)
end Go.Proofs.Ytplceoanaoeejaa
