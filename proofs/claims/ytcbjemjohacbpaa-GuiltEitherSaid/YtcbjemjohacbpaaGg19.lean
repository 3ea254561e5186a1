/- A text of a proof over this seat: walks over the program's functions and the plain laws that they need. -/
import Derived.Test.YtcbjemjohacbpaaGg18
import Derived.Test.YtcbjemjohacbpaaGuA
import Derived.Test.YtcbjemjohacbpaaFwB
set_option linter.all false
namespace Go.Proofs.Ytcbjemjohacbpaa
open Go.Fw


set_option maxRecDepth 4000 in
set_option maxHeartbeats 2000000 in
theorem law19_ct (v : Value) (l : List Int) (v2 : Value) (m : List Int) (w : World) (hl : Sl encI (ph w) v l) (hm : Sl encI (ph w) v2 m) : Ct Try.prog 5 [v, v2] w (fun r _ _ => r = .bool true) := by
 refine fn_enter Try.func5 rfl Try.ntmps5 (Nat.le_of_ble_eq_true rfl) fun a hF hS => ?_
 refine wp_seq_k ?_; intro K1 hK1
 refine reg hF hS (sq rfl (q_assign rfl) <|
   sq_end) ?_
 clear hF hS; intro a w hF hS
 refine hK1 _ _ ?_
 clear hK1
 refine wp_seq_k ?_; intro K2 hK2
 refine regl ?_
 refine wpl_sq hF hS (sq rfl (q_move rfl) <|
   sq_end) ?_
 clear hF hS; intro a w hF hS
 refine wpl_ef hF hS rfl (ef_call fn28 rfl (fun w hS => family_ct _ _ w (Sl.mono (hS.le zin0) hl))) ?_
 clear hF hS; rintro _ _ _ a w ⟨_, _, rfl, rfl, ⟨nvF, svF, bvF, ns, xs, xb, zF, rfl, hnF, hsF, hbF, lnF, lsF, lbF, leqF, rfl, rfl⟩⟩ hF hS
 replace hS : St _ [_] [] _ := hS
 refine wpl_ef hF hS rfl (ef_allocA ty29) ?_
 clear hF hS; rintro _ _ _ a w ⟨b2, rfl, rfl, rfl⟩ hF hS
 refine wpl_ef hF hS rfl (ef_storeW ty29 0 rfl rfl rfl rfl bQ (oc_cons (sl_one' hnF) (oc_cons (sl_one' hsF) (oc_cons (sl_one' hbF) oc_nil))) bQ) ?_
 clear hF hS; rintro _ _ _ a w ⟨rfl, rfl, rfl⟩ hF hS
 replace hS : St _ [_] [_] _ := hS
 refine wpList_nil ?_
 obtain ⟨heq, hfam⟩ := leqF rfl
 have hr9 := Gu.fam_r hfam
 have hmin : min xs.length xb.length = xs.length := by omega
 refine hK2 _ _ ?_
 clear hK2
 refine wp_seq_k ?_; intro K3 hK3
 refine regl ?_
 refine wpl_sq hF hS (sq rfl (q_ld_blkW ty29 0 rfl rfl bQ rfl) <|
   sq rfl (q_move rfl) <|
   sq_end) ?_
 clear hF hS; intro a w hF hS
 refine wpl_ef hF hS rfl (ef_call fn12 rfl (fun w hS => each_ct _ _ _ _ _ _ _ (by first | with_reducible assumption | omega) w (sl_one' hnF) (Sl.mono (hS.le (.inr (by simp))) hsF) (Sl.mono (hS.le (.inr (by simp))) hbF) (Sl.mono (hS.le zin0) hm))) ?_
 clear hF hS; rintro v3 _ _ a w ⟨_, _, rfl, rfl, ⟨zE, hzE, rfl, rfl⟩⟩ hF hS
 replace hS : St _ [_, _] [_] _ := hS
 refine wpl_sq hF hS (sq rfl (q_assign rfl) <|
   sq_end) ?_
 clear hF hS; intro a w hF hS
 refine wpList_nil ?_
 rw [hmin] at hzE
 have hfit := Gu.eac_fit xs xb m heq
 obtain ⟨M, hM⟩ : ∃ M, M = Gu.eac xb m xs.length := ⟨_, rfl⟩
 rw [← hM] at hzE hfit
 have hML := (Gu.fits_use hfit).1
 have hge : Gu.ge xs xb M = 0 := by unfold Gu.ge; rw [if_pos hfit]
 refine hK3 _ _ ?_
 clear hK3
 refine wp_seq_k ?_; intro K4 hK4
 refine regl ?_
 refine wpl_sq hF hS (sq rfl (q_ld_blkW ty29 0 rfl rfl bQ rfl) <|
   sq rfl (q_call fn14 rfl (fun w hS => own_ct _ _ _ _ _ w (sl_one' hnF) (Sl.mono (hS.le (.inr (by simp))) hsF) (Sl.mono (hS.le (.inr (by simp))) hbF)) (fun _ _ _ h => h)) <|
   sq rfl (q_move rfl) <|
   sq_end) ?_
 clear hF hS; intro a w hF hS
 refine wpl_ef hF hS rfl (ef_call fn13 rfl (fun w hS => guilty_ct _ _ _ _ _ _ _ (by first | with_reducible assumption | omega) w (sl_one' hnF) (Sl.mono (hS.le (.inr (by simp))) hsF) (Sl.mono (hS.le (.inr (by simp))) hbF) (Sl.mono (hS.le (.inr (by simp))) hzE))) ?_
 clear hF hS; rintro _ _ _ a w ⟨_, _, rfl, rfl, ⟨vG, zG, hzG, rfl, rfl, rfl⟩⟩ hF hS
 replace hS : St _ [_, _, _] [_] _ := hS
 refine wpl_sq hF hS (sq rfl (q_move rfl) <|
   sq rfl (q_extract rfl rfl) <|
   sq rfl (q_extract rfl rfl) <|
   sq rfl (q_assign rfl) <|
   sq rfl (q_assign rfl) <|
   sq_end) ?_
 clear hF hS; intro a w hF hS
 refine wpList_nil ?_
 have hGe : Gu.gl xs xb M = Gu.minl xs M := Gu.gl_fit hfit
 obtain ⟨G, hG⟩ : ∃ G, G = Gu.gl xs xb M := ⟨_, rfl⟩
 rw [← hG] at hzG hGe
 have hGl : G.length ≤ 32 := by have := Gu.gl_len xs xb M; rw [← hG] at this; omega
 have hGn : G.Nodup := hG ▸ Gu.gl_nodup xs xb M
 refine hK4 _ _ ?_
 clear hK4
 refine wp_seq_k ?_; intro K5 hK5
 refine reg hF hS (sq rfl (q_ld_blkW ty29 0 rfl rfl bQ rfl) <|
   sq rfl (q_call fn14 rfl (fun w hS => own_ct _ _ _ _ _ w (sl_one' hnF) (Sl.mono (hS.le (.inr (by simp))) hsF) (Sl.mono (hS.le (.inr (by simp))) hbF)) (fun _ _ _ h => h)) <|
   sq rfl (q_move rfl) <|
   sq rfl (q_call fn16 rfl (fun w hS => older_ct _ _ _ _ _ _ _ (by first | with_reducible assumption | omega) w (sl_one' hnF) (Sl.mono (hS.le (.inr (by simp))) hsF) (Sl.mono (hS.le (.inr (by simp))) hbF) (Sl.mono (hS.le (.inr (by simp))) hzE)) (fun _ _ _ h => h)) <|
   sq rfl (q_move rfl) <|
   sq rfl (q_extract rfl rfl) <|
   sq rfl (q_extract rfl rfl) <|
   sq rfl (q_assign rfl) <|
   sq rfl (q_assign rfl) <|
   sq_end) ?_
 clear hF hS; intro a w hF hS
 have hold : Gu.gOld xs xb M = decide (G = [0]) := by rw [hG]; exact Gu.all_old hr9 hfit
 refine hK5 _ _ ?_
 clear hK5
 refine wp_seq_k ?_; intro K6 hK6
 refine wp_seq_k ?_; intro K7 hK7
 refine regl ?_
 refine wpl_sq hF hS (sq rfl (q_move rfl) <|
   sq rfl (q_nf (q_nei rfl rfl) (hge)) <|
   sq rfl (q_move rfl) <|
   sq_go 38 rfl rfl rfl (q_move rfl) <|
   sq_go 38 rfl rfl rfl (q_nf (q_nei rfl rfl) (hge)) <|
   sq rfl (q_pick_f rfl rfl) <|
   sq rfl (q_move rfl) <|
   sq_go 42 rfl rfl rfl (q_move rfl) <|
   sq_go 42 rfl rfl rfl (q_move rfl) <|
   sq_end) ?_
 clear hF hS; intro a w hF hS
 refine wpl_efg hF hS (wanted_go 42 rfl rfl) rfl (ef_bsliceA ty22 ty3 rfl rfl oQ (by decide) rfl rfl) ?_
 clear hF hS; rintro v5 _ _ a w ⟨rfl, rfl⟩ hF hS
 replace hS : St _ [_, _, _] [_, _] _ := hS
 refine wpl_sq hF hS (sq_go 42 rfl rfl rfl (q_call fn18 rfl (fun w hS => samei_ct _ _ _ _ w (Sl.mono (hS.le (.inr (by simp))) hzG) (own_slV (f := vi) (xs := [0]) (hS.own _ (List.mem_of_getElem? (i := 0) rfl)).1 (by decide) rfl (by decide))) (fun _ _ _ h => h)) <|
   sq_go 42 rfl rfl rfl (q_bf (q_net ty4 rfl rfl) (by rw [hold]; simp)) <|
   sq rfl (q_pick_f rfl rfl) <|
   sq_end) ?_
 clear hF hS; intro a w hF hS
 refine wpList_nil ?_
 refine hK7 _ _ ?_
 clear hK7
 refine wp_if hF rfl (fun h => absurd h (by simp)) (fun _ => ?_)
 refine wp_skip ?_
 refine hK6 _ _ ?_
 clear hK6
 refine wp_seq_k ?_; intro K8 hK8
 refine wp_seq_k ?_; intro K9 hK9
 refine reg hF hS (sq rfl (q_assign rfl) <|
   sq_end) ?_
 clear hF hS; intro a w hF hS
 refine hK9 _ _ ?_
 clear hK9
 refine wp_block ?_
 obtain ⟨hs0, hhs0, hS⟩ : ∃ h, h = _ ∧ St _ _ h _ := ⟨_, rfl, hS⟩
 refine wp_loopx (γ := Int) (0) (fun (i : Int) => [(11, vi i)]) [(5, _), (6, _), (7, _)] (fun (i : Int) => hs0) (fun (i : Int) => 0 ≤ i ∧ i ≤ G.length) (fun (i : Int) => (G.length - i).toNat) (hF.sub ⟨rfl, rfl, rfl, rfl, trivial⟩) (by subst hhs0; exact hS) (by exact ⟨Int.le_refl _, by omega⟩) ?_
 clear hF hS; rintro i a w hfact hF hS
 subst hhs0; (try dsimp only at hfact); (try dsimp only at hF); (try dsimp only at hS)
 obtain ⟨hi0, hi1⟩ := hfact
 replace hS : St _ [_, _, _] [_, _] _ := hS
 refine wp_seq_k ?_; intro K10 hK10
 refine wp_seq_k ?_; intro K11 hK11
 refine reg hF hS (sq rfl (q_move rfl) <|
   sq rfl (q_move rfl) <|
   sq rfl (q_len_sl ty22 hzG rfl) <|
   sq rfl (q_lti rfl rfl) <|
   sq_end) ?_
 clear hF hS; intro a w hF hS
 refine hK11 _ _ ?_
 clear hK11
 refine wp_ifd hF rfl (fun hc2 => ?_) (fun hc2 => ?_)
 ·have hgm : G.getD i.toNat 0 ∈ Gu.minl xs M := hGe ▸ getD_mem (by omega)
  obtain ⟨hk0, hk1, hk2⟩ := Gu.min_ix hfam.1 hML hgm
  refine wp_skip ?_
  refine hK10 _ _ ?_
  clear hK10
  refine wp_seq_k ?_; intro K12 hK12
  refine wp_block ?_
  refine wp_seq_k ?_; intro K13 hK13
  refine regd mixed kQ hF hS (sq rfl (q_ld_blkW ty29 1 rfl rfl bQ rfl) <|
    sq rfl (q_call fn14 rfl (fun w hS => own_ct _ _ _ _ _ w (sl_one' hnF) (Sl.mono (hS.le (.inr (by simp))) hsF) (Sl.mono (hS.le (.inr (by simp))) hbF)) (fun _ _ _ h => h)) <|
    sq rfl (q_move rfl) <|
    sq rfl (q_move rfl) <|
    sq rfl (q_idx_sl ty22 ty3 hzG rfl rfl (by omega)) <|
    sq rfl (q_ld_I ty3 hzG (.inr (by simp)) rfl rfl (by omega)) <|
    sq rfl (q_call fn29 rfl (fun w hS => lix_ct _ _ _ _ _ _ w (sl_one' hnF) (Sl.mono (hS.le (.inr (by simp))) hsF) (Sl.mono (hS.le (.inr (by simp))) hbF)) (fun _ _ _ h => h)) <|
    sq rfl (q_assign rfl) <|
    sq_end) ?_
  clear hF hS; intro a w hF hS
  refine hK13 _ _ ?_
  clear hK13
  refine wp_seq_k ?_; intro K14 hK14
  refine wp_seq_k ?_; intro K15 hK15
  refine reg hF hS (sq rfl (q_move rfl) <|
    sq rfl (q_df (q_lti rfl rfl) (by omega)) <|
    sq rfl (q_move rfl) <|
    sq_go 64 rfl rfl rfl (q_move rfl) <|
    sq_go 64 rfl rfl rfl (q_move rfl) <|
    sq_go 64 rfl rfl rfl (q_len_sl ty23 hzE rfl) <|
    sq_go 64 rfl rfl rfl (q_df (q_gei rfl rfl) (by omega)) <|
    sq rfl (q_pick_f rfl rfl) <|
    sq_end) ?_
  clear hF hS; intro a w hF hS
  refine hK15 _ _ ?_
  clear hK15
  refine wp_if hF rfl (fun h => absurd h (by simp)) (fun _ => ?_)
  refine wp_skip ?_
  refine hK14 _ _ ?_
  clear hK14
  refine wp_seq_k ?_; intro K16 hK16
  refine wp_seq_k ?_; intro K17 hK17
  refine reg hF hS (sq rfl (q_move rfl) <|
    sq rfl (q_move rfl) <|
    sq rfl (q_idx_sl ty23 ty4 hzE rfl rfl (by omega)) <|
    sq rfl (q_ld_T ty4 hzE (.inr (by simp)) rfl rfl (by omega)) <|
    sq rfl (q_bf (q_not rfl) (by rw [hk2]; rfl)) <|
    sq_end) ?_
  clear hF hS; intro a w hF hS
  refine hK17 _ _ ?_
  clear hK17
  refine wp_if hF rfl (fun h => absurd h (by simp)) (fun _ => ?_)
  refine wp_skip ?_
  refine hK16 _ _ ?_
  clear hK16
  refine wp_seq_k ?_; intro K18 hK18
  refine reg hF hS (sq rfl (q_assign rfl) <|
    sq_end) ?_
  clear hF hS; intro a w hF hS
  refine hK18 _ _ ?_
  clear hK18
  refine wp_block ?_
  obtain ⟨hs0, hhs0, hS⟩ : ∃ h, h = _ ∧ St _ _ h _ := ⟨_, rfl, hS⟩
  refine wp_loopx (γ := Int) (0) (fun (j : Int) => [(13, vi j)]) [(5, _), (6, _), (7, _), (11, _)] (fun (j : Int) => hs0) (fun (j : Int) => 0 ≤ j ∧ j ≤ G.length) (fun (j : Int) => (G.length - j).toNat) (hF.sub ⟨rfl, rfl, rfl, rfl, rfl, trivial⟩) (by subst hhs0; exact hS) (by exact ⟨Int.le_refl _, by omega⟩) ?_
  clear hF hS; rintro j a w hfact hF hS
  subst hhs0; (try dsimp only at hfact); (try dsimp only at hF); (try dsimp only at hS)
  obtain ⟨hj0, hj1⟩ := hfact
  replace hS : St _ [_, _, _] [_, _] _ := hS
  refine wp_seq_k ?_; intro K19 hK19
  refine wp_seq_k ?_; intro K20 hK20
  refine reg hF hS (sq rfl (q_move rfl) <|
    sq rfl (q_move rfl) <|
    sq rfl (q_len_sl ty22 hzG rfl) <|
    sq rfl (q_lti rfl rfl) <|
    sq_end) ?_
  clear hF hS; intro a w hF hS
  refine hK20 _ _ ?_
  clear hK20
  refine wp_ifd hF rfl (fun hc5 => ?_) (fun hc5 => ?_)
  ·refine wp_skip ?_
   refine hK19 _ _ ?_
   clear hK19
   refine wp_seq_k ?_; intro K21 hK21
   refine wp_block ?_
   refine wp_seq_k ?_; intro K22 hK22
   refine regq mixed kQ hS ?_
   refine wpq_seg hF (sq rfl (q_move rfl) <|
     sq rfl (q_move rfl) <|
     sq rfl (q_nei rfl rfl) <|
     sq rfl (q_move rfl) <|
     sq_end) ?_
   clear hF; intro a hF
   refine wpq_and 3 84 9 hF rfl rfl rfl rfl rfl (fun hg => have hg := (nd_true hg); sq_go 84 rfl rfl rfl (q_move rfl) <|
     sq_go 84 rfl rfl rfl (q_move rfl) <|
     sq_go 84 rfl rfl rfl (q_idx_sl ty22 ty3 hzG rfl rfl (by omega)) <|
     sq_go 84 rfl rfl rfl (q_ld_I ty3 hzG (.inr (by simp)) rfl rfl (by omega)) <|
     sq_go 84 rfl rfl rfl (q_move rfl) <|
     sq_go 84 rfl rfl rfl (q_move rfl) <|
     sq_go 84 rfl rfl rfl (q_idx_sl ty22 ty3 hzG rfl rfl (by omega)) <|
     sq_go 84 rfl rfl rfl (q_ld_I ty3 hzG (.inr (by simp)) rfl rfl (by omega)) <|
     sq_go 84 rfl rfl rfl (q_call fn30 rfl (fun w hS => in_ct _ _ w ) (fun _ _ _ h => h)) <|
     sq_end) rfl rfl ?_
   clear hF; intro a hF
   refine wpq_nil ?_
   clear hS; intro w hS
   refine hK22 _ _ ?_
   clear hK22
   refine wp_if hF rfl (fun hc6 => ?_) (fun hc6 => ?_)
   ·(try simp only [Bool.or_eq_true, Bool.and_eq_true, Bool.or_eq_false_iff, Bool.and_eq_false_iff, decide_eq_true_eq, decide_eq_false_iff_not, Bool.not_eq_true', Bool.not_eq_false'] at hc6)
    have e9 := Gu.min_inc (M := M) (y := G.getD i.toNat 0) (t := G.getD j.toNat 0) hgm (hGe ▸ getD_mem (by omega)) (fun e => hc6.1 (by have := Gu.nodup_getD hGn (by omega) (by omega) e; omega))
    rw [e9] at hc6
    exact absurd hc6.2 (by decide)
   ·(try simp only [Bool.or_eq_true, Bool.and_eq_true, Bool.or_eq_false_iff, Bool.and_eq_false_iff, decide_eq_true_eq, decide_eq_false_iff_not, Bool.not_eq_true', Bool.not_eq_false'] at hc6)
    refine wp_skip ?_
    refine hK21 _ _ ?_
    clear hK21
    refine reg hF hS (sq rfl (q_move rfl) <|
      sq rfl (q_addi rfl rfl (by omega)) <|
      sq rfl (q_assign rfl) <|
      sq_end) ?_
    clear hF hS; intro a w hF hS
    refine ⟨(j + 1), ?_, ?_, hF.sub ⟨rfl, rfl, rfl, rfl, rfl, trivial⟩, ?_⟩
    ·(try dsimp only); omega
    ·(try dsimp only); omega
    ·exact hS
  ·refine wp_exit ?_
   refine hK12 _ _ ?_
   clear hK12
   refine reg hF hS (sq rfl (q_move rfl) <|
     sq rfl (q_addi rfl rfl (by omega)) <|
     sq rfl (q_assign rfl) <|
     sq_end) ?_
   clear hF hS; intro a w hF hS
   refine ⟨(i + 1), ?_, ?_, hF.sub ⟨rfl, rfl, rfl, rfl, trivial⟩, ?_⟩
   ·(try dsimp only); omega
   ·(try dsimp only); omega
   ·exact hS
 ·refine wp_exit ?_
  refine hK8 _ _ ?_
  clear hK8
  refine wp_seq_k ?_; intro K23 hK23
  refine wp_seq_k ?_; intro K24 hK24
  refine reg hF hS (sq rfl (q_assign rfl) <|
    sq_end) ?_
  clear hF hS; intro a w hF hS
  refine hK24 _ _ ?_
  clear hK24
  refine wp_block ?_
  obtain ⟨hs0, hhs0, hS⟩ : ∃ h, h = _ ∧ St _ _ h _ := ⟨_, rfl, hS⟩
  refine wp_loopx (γ := Int) (0) (fun (i : Int) => [(14, vi i)]) [(5, _), (6, _), (7, _)] (fun (i : Int) => hs0) (fun (i : Int) => 0 ≤ i ∧ i ≤ M.length) (fun (i : Int) => (M.length - i).toNat) (hF.sub ⟨rfl, rfl, rfl, rfl, trivial⟩) (by subst hhs0; exact hS) (by exact ⟨Int.le_refl _, by omega⟩) ?_
  clear hF hS; rintro i a w hfact hF hS
  subst hhs0; (try dsimp only at hfact); (try dsimp only at hF); (try dsimp only at hS)
  obtain ⟨hi0, hi1⟩ := hfact
  replace hS : St _ [_, _, _] [_, _] _ := hS
  refine wp_seq_k ?_; intro K25 hK25
  refine wp_seq_k ?_; intro K26 hK26
  refine reg hF hS (sq rfl (q_move rfl) <|
    sq rfl (q_move rfl) <|
    sq rfl (q_len_sl ty23 hzE rfl) <|
    sq rfl (q_lti rfl rfl) <|
    sq_end) ?_
  clear hF hS; intro a w hF hS
  refine hK26 _ _ ?_
  clear hK26
  refine wp_ifd hF rfl (fun hc7 => ?_) (fun hc7 => ?_)
  ·refine wp_skip ?_
   refine hK25 _ _ ?_
   clear hK25
   refine wp_seq_k ?_; intro K27 hK27
   refine wp_block ?_
   refine wp_seq_k ?_; intro K28 hK28
   refine reg hF hS (sq rfl (q_assign rfl) <|
     sq_end) ?_
   clear hF hS; intro a w hF hS
   refine hK28 _ _ ?_
   clear hK28
   refine wp_seq_k ?_; intro K29 hK29
   refine wp_seq_k ?_; intro K30 hK30
   refine reg hF hS (sq rfl (q_assign rfl) <|
     sq_end) ?_
   clear hF hS; intro a w hF hS
   refine hK30 _ _ ?_
   clear hK30
   refine wp_block ?_
   obtain ⟨hs0, hhs0, hS⟩ : ∃ h, h = _ ∧ St _ _ h _ := ⟨_, rfl, hS⟩
   refine wp_loopx (γ := Int) (0) (fun (j : Int) => [(16, vi j), (15, .bool ((G.take j.toNat).any fun y => Gu.wi y (xs.getD i.toNat 0)))]) [(5, _), (6, _), (7, _), (14, _)] (fun (j : Int) => hs0) (fun (j : Int) => 0 ≤ j ∧ j ≤ G.length) (fun (j : Int) => (G.length - j).toNat) (hF.sub ⟨rfl, rfl, rfl, rfl, rfl, rfl, trivial⟩) (by subst hhs0; exact hS) (by exact ⟨Int.le_refl _, by omega⟩) ?_
   clear hF hS; rintro j a w hfact hF hS
   subst hhs0; (try dsimp only at hfact); (try dsimp only at hF); (try dsimp only at hS)
   obtain ⟨hj0, hj1⟩ := hfact
   replace hS : St _ [_, _, _] [_, _] _ := hS
   refine wp_seq_k ?_; intro K31 hK31
   refine wp_seq_k ?_; intro K32 hK32
   refine reg hF hS (sq rfl (q_move rfl) <|
     sq rfl (q_move rfl) <|
     sq rfl (q_len_sl ty22 hzG rfl) <|
     sq rfl (q_lti rfl rfl) <|
     sq_end) ?_
   clear hF hS; intro a w hF hS
   refine hK32 _ _ ?_
   clear hK32
   refine wp_ifd hF rfl (fun hc8 => ?_) (fun hc8 => ?_)
   ·refine wp_skip ?_
    refine hK31 _ _ ?_
    clear hK31
    refine wp_seq_k ?_; intro K33 hK33
    refine wp_block ?_
    refine regq mixed kQ hS ?_
    refine wpq_seg hF (sq rfl (q_move rfl) <|
      sq rfl (q_move rfl) <|
      sq_end) ?_
    clear hF; intro a hF
    refine wpq_or 1 108 10 hF rfl rfl rfl rfl rfl (fun hg => have hg := hg; sq_go 108 rfl rfl rfl (q_move rfl) <|
      sq_go 108 rfl rfl rfl (q_move rfl) <|
      sq_go 108 rfl rfl rfl (q_idx_sl ty22 ty3 hzG rfl rfl (by omega)) <|
      sq_go 108 rfl rfl rfl (q_ld_I ty3 hzG (.inr (by simp)) rfl rfl (by omega)) <|
      sq_go 108 rfl rfl rfl (q_fieldAddr ty29 rfl rfl (s' := 0) kQ) <|
      sq_go 108 rfl rfl rfl (q_ld_blk1 ty22 1 rfl rfl rfl rfl) <|
      sq_go 108 rfl rfl rfl (q_move rfl) <|
      sq_go 108 rfl rfl rfl (q_idx_sl ty22 ty3 hsF rfl rfl (by omega)) <|
      sq_go 108 rfl rfl rfl (q_ld_I ty3 hsF (.inr (by simp)) rfl rfl (by omega)) <|
      sq_go 108 rfl rfl rfl (q_call fn30 rfl (fun w hS => in_ct _ _ w ) (fun _ _ _ h => h)) <|
      sq_end) rfl rfl ?_
    clear hF; intro a hF
    refine wpq_seg hF (sq rfl (q_assign rfl) <|
      sq_end) ?_
    clear hF; intro a hF
    refine wpq_nil ?_
    clear hS; intro w hS
    refine hK33 _ _ ?_
    clear hK33
    refine reg hF hS (sq rfl (q_move rfl) <|
      sq rfl (q_addi rfl rfl (by omega)) <|
      sq rfl (q_assign rfl) <|
      sq_end) ?_
    clear hF hS; intro a w hF hS
    refine ⟨(j + 1), ?_, ?_, hF.sub ⟨rfl, (by rw [show (j + 1).toNat = j.toNat + 1 by omega, Gu.any_take (by omega)]; rfl), rfl, rfl, rfl, rfl, trivial⟩, ?_⟩
    ·(try dsimp only); omega
    ·(try dsimp only); omega
    ·exact hS
   ·obtain rfl : j = G.length := by omega
    rw [Int.toNat_natCast, List.take_length] at hF
    refine wp_exit ?_
    refine hK29 _ _ ?_
    clear hK29
    refine wp_seq_k ?_; intro K34 hK34
    refine regl ?_
    refine wpl_sq hF hS (sq rfl (q_move rfl) <|
      sq rfl (q_move rfl) <|
      sq rfl (q_idx_sl ty23 ty4 hzE rfl rfl (by omega)) <|
      sq rfl (q_ld_T ty4 hzE (.inr (by simp)) rfl rfl (by omega)) <|
      sq rfl (q_move rfl) <|
      sq_end) ?_
    clear hF hS; intro a w hF hS
    refine wpl_and 4 124 2 hF hS rfl rfl rfl rfl rfl (fun hg => have hg := hg; sq_go 124 rfl rfl rfl (q_move rfl) <|
      sq_go 124 rfl rfl rfl (q_not rfl) <|
      sq_end) rfl rfl ?_
    clear hF hS; intro a w hF hS
    refine wpList_nil ?_
    refine hK34 _ _ ?_
    clear hK34
    refine wp_if hF rfl (fun hc9 => ?_) (fun hc9 => ?_)
    ·(try simp only [Bool.or_eq_true, Bool.and_eq_true, Bool.or_eq_false_iff, Bool.and_eq_false_iff, decide_eq_true_eq, decide_eq_false_iff_not, Bool.not_eq_true', Bool.not_eq_false'] at hc9)
     have e9 := Gu.all_bad hr9 (i := i.toNat) (by omega) hc9.1
     rw [← hGe, hc9.2] at e9
     exact absurd e9 (by decide)
    ·(try simp only [Bool.or_eq_true, Bool.and_eq_true, Bool.or_eq_false_iff, Bool.and_eq_false_iff, decide_eq_true_eq, decide_eq_false_iff_not, Bool.not_eq_true', Bool.not_eq_false'] at hc9)
     refine wp_skip ?_
     refine hK27 _ _ ?_
     clear hK27
     refine reg hF hS (sq rfl (q_move rfl) <|
       sq rfl (q_addi rfl rfl (by omega)) <|
       sq rfl (q_assign rfl) <|
       sq_end) ?_
     clear hF hS; intro a w hF hS
     refine ⟨(i + 1), ?_, ?_, hF.sub ⟨rfl, rfl, rfl, rfl, trivial⟩, ?_⟩
     ·(try dsimp only); omega
     ·(try dsimp only); omega
     ·exact hS
  ·refine wp_exit ?_
   refine hK23 _ _ ?_
   clear hK23
   refine wp_seq_k ?_; intro K35 hK35
   refine reg hF hS (sq rfl (q_call fn19 rfl (fun w hS => lives_ct w ) (fun _ _ _ h => h)) <|
     sq rfl (q_assign rfl) <|
     sq_end) ?_
   clear hF hS; intro a w hF hS
   refine hK35 _ _ ?_
   clear hK35
   refine wp_ret ?_
   exact fn_ret (rs := [.tmp 4]) rfl hF hS (vs := [_]) ⟨rfl, trivial⟩ zQ zQ (rfl)
end Go.Proofs.Ytcbjemjohacbpaa
