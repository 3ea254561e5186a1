/- A text of a proof over this seat: walks over the program's functions and the plain laws that they need. -/
import Derived.Test.YtcbjemjohacbpaaGg22
import Derived.Test.YtcbjemjohacbpaaGuA
import Derived.Test.YtcbjemjohacbpaaFwC
import Derived.Test.YtcbjemjohacbpaaFwB
set_option linter.all false
namespace Go.Proofs.Ytcbjemjohacbpaa
open Go.Fw
theorem fn33 : FnOk Try.prog 33 := ⟨_, Try.func33, rfl, by kernel_rfl⟩
theorem fn34 : FnOk Try.prog 34 := ⟨_, Try.func34, rfl, by kernel_rfl⟩

set_option maxRecDepth 4000 in
set_option maxHeartbeats 2000000 in
theorem law22_ct (v : Value) (l : List Int) (v2 : Value) (m : List Int) (t : Int) (ht9 : -9223372036854775808 ≤ t ∧ t ≤ 9223372036854775807) (w : World) (hl : Sl encI (ph w) v l) (hm : Sl encI (ph w) v2 m) : Ct Try.prog 8 [v, v2, vi t] w (fun r _ _ => r = .bool true) := by
 refine fn_enter Try.func8 rfl Try.ntmps8 (Nat.le_of_ble_eq_true rfl) fun a hF hS => ?_
 refine wp_seq_k ?_; intro K1 hK1
 refine reg hF hS (sq rfl (q_assign rfl) <|
   sq_end) ?_
 clear hF hS; intro a w hF hS
 refine hK1 _ _ ?_
 clear hK1
 refine wp_seq_k ?_; intro K2 hK2
 refine regl ?_
 refine wpl_sq hF hS (sq rfl (q_move rfl) <|
   sq_end) ?_
 clear hF hS; intro a w hF hS
 refine wpl_ef hF hS rfl (ef_call fn28 rfl (fun w hS => family_ct _ _ w (Sl.mono (hS.le zin0) hl))) ?_
 clear hF hS; rintro _ _ _ a w ⟨_, _, rfl, rfl, ⟨nvF, svF, bvF, ns, xs, xb, zF, rfl, hnF, hsF, hbF, lnF, lsF, lbF, leqF, rfl, rfl⟩⟩ hF hS
 replace hS : St _ [_] [] _ := hS
 refine wpl_ef hF hS rfl (ef_allocA ty29) ?_
 clear hF hS; rintro _ _ _ a w ⟨b2, rfl, rfl, rfl⟩ hF hS
 refine wpl_ef hF hS rfl (ef_storeW ty29 0 rfl rfl rfl rfl bQ (oc_cons (sl_one' hnF) (oc_cons (sl_one' hsF) (oc_cons (sl_one' hbF) oc_nil))) bQ) ?_
 clear hF hS; rintro _ _ _ a w ⟨rfl, rfl, rfl⟩ hF hS
 replace hS : St _ [_] [_] _ := hS
 refine wpList_nil ?_
 obtain ⟨heq, hfam⟩ := leqF rfl
 have hr9 := Gu.fam_r hfam
 have hmin : min xs.length xb.length = xs.length := by omega
 refine hK2 _ _ ?_
 clear hK2
 refine wp_seq_k ?_; intro K3 hK3
 refine regl ?_
 refine wpl_sq hF hS (sq rfl (q_ld_blkW ty29 0 rfl rfl bQ rfl) <|
   sq rfl (q_move rfl) <|
   sq_end) ?_
 clear hF hS; intro a w hF hS
 refine wpl_ef hF hS rfl (ef_call fn12 rfl (fun w hS => each_ct _ _ _ _ _ _ _ (by first | with_reducible assumption | omega) w (sl_one' hnF) (Sl.mono (hS.le (.inr (by simp))) hsF) (Sl.mono (hS.le (.inr (by simp))) hbF) (Sl.mono (hS.le zin0) hm))) ?_
 clear hF hS; rintro v3 _ _ a w ⟨_, _, rfl, rfl, ⟨zE, hzE, rfl, rfl⟩⟩ hF hS
 replace hS : St _ [_, _] [_] _ := hS
 refine wpl_sq hF hS (sq rfl (q_assign rfl) <|
   sq_end) ?_
 clear hF hS; intro a w hF hS
 refine wpList_nil ?_
 rw [hmin] at hzE
 have hfit := Gu.eac_fit xs xb m heq
 obtain ⟨M, hM⟩ : ∃ M, M = Gu.eac xb m xs.length := ⟨_, rfl⟩
 rw [← hM] at hzE hfit
 have hML := (Gu.fits_use hfit).1
 have hge : Gu.ge xs xb M = 0 := by unfold Gu.ge; rw [if_pos hfit]
 refine hK3 _ _ ?_
 clear hK3
 refine wp_seq_k ?_; intro K4 hK4
 refine regl ?_
 refine wpl_sq hF hS (sq rfl (q_ld_blkW ty29 0 rfl rfl bQ rfl) <|
   sq rfl (q_call fn14 rfl (fun w hS => own_ct _ _ _ _ _ w (sl_one' hnF) (Sl.mono (hS.le (.inr (by simp))) hsF) (Sl.mono (hS.le (.inr (by simp))) hbF)) (fun _ _ _ h => h)) <|
   sq rfl (q_move rfl) <|
   sq_end) ?_
 clear hF hS; intro a w hF hS
 refine wpl_ef hF hS rfl (ef_call fn13 rfl (fun w hS => guilty_ct _ _ _ _ _ _ _ (by first | with_reducible assumption | omega) w (sl_one' hnF) (Sl.mono (hS.le (.inr (by simp))) hsF) (Sl.mono (hS.le (.inr (by simp))) hbF) (Sl.mono (hS.le (.inr (by simp))) hzE))) ?_
 clear hF hS; rintro _ _ _ a w ⟨_, _, rfl, rfl, ⟨vG, zG, hzG, rfl, rfl, rfl⟩⟩ hF hS
 replace hS : St _ [_, _, _] [_] _ := hS
 refine wpl_sq hF hS (sq rfl (q_move rfl) <|
   sq rfl (q_extract rfl rfl) <|
   sq rfl (q_extract rfl rfl) <|
   sq rfl (q_assign rfl) <|
   sq rfl (q_assign rfl) <|
   sq_end) ?_
 clear hF hS; intro a w hF hS
 refine wpList_nil ?_
 have hGe : Gu.gl xs xb M = Gu.minl xs M := Gu.gl_fit hfit
 obtain ⟨G, hG⟩ : ∃ G, G = Gu.gl xs xb M := ⟨_, rfl⟩
 rw [← hG] at hzG hGe
 have hGl : G.length ≤ 32 := by have := Gu.gl_len xs xb M; rw [← hG] at this; omega
 have hGn : G.Nodup := hG ▸ Gu.gl_nodup xs xb M
 refine hK4 _ _ ?_
 clear hK4
 refine wp_seq_k ?_; intro K5 hK5
 refine regt 7 mixed kQ hF hS (sq rfl (q_move rfl) <|
   sq rfl (q_call fn25 rfl (fun w hS => arnd_ct _ _ (by omega) (by omega) w ) (fun _ _ _ h => h)) <|
   sq rfl (q_ld_blkW ty29 0 rfl rfl bQ rfl) <|
   sq rfl (q_call fn14 rfl (fun w hS => own_ct _ _ _ _ _ w (sl_one' hnF) (Sl.mono (hS.le (.inr (by simp))) hsF) (Sl.mono (hS.le (.inr (by simp))) hbF)) (fun _ _ _ h => h)) <|
   sq rfl (q_move rfl) <|
   sq rfl (q_call fn25 rfl (fun w hS => arnd_ct _ _ (by omega) (by omega) w ) (fun _ _ _ h => h)) <|
   sq rfl (q_call fn33 rfl (fun w hS => inner_ct _ _ _ _ _ _ w (sl_one' hnF) (Sl.mono (hS.le (.inr (by simp))) hsF) (Sl.mono (hS.le (.inr (by simp))) hbF)) (fun _ _ _ h => h)) <|
   sq_end) ?_
 clear hF hS; intro a w hF hS
 refine wpl_ef hF hS rfl (ef_bsliceA ty22 ty3 rfl rfl oQ (by decide) rfl rfl) ?_
 clear hF hS; rintro v5 _ _ a w ⟨rfl, rfl⟩ hF hS
 replace hS : St _ [_, _, _] [_, _] _ := hS
 refine wpl_sq hF hS (sq rfl (q_assign rfl) <|
   sq_end) ?_
 clear hF hS; intro a w hF hS
 refine wpList_nil ?_
 have har := Gu.arnd_range (n := t) (m := 32) (by decide)
 have hin9 := Gu.inr_range xs (Gu.arnd t 32) xs.length
 obtain ⟨ss, hss⟩ : ∃ ss, ss = ([Gu.arnd t 32, Gu.inr xs (Gu.arnd t 32) xs.length, -1] : List Int) := ⟨_, rfl⟩
 have hsl3 : ss.length = 3 := by rw [hss]; rfl
 have hrg : ∀ x ∈ ss, -9223372036854775808 ≤ x ∧ x ≤ 9223372036854775807 := by
  intro x hx
  rw [hss] at hx
  simp only [List.mem_cons, List.not_mem_nil, or_false] at hx
  rcases hx with rfl | rfl | rfl
  ·omega
  ·exact hin9
  ·omega
 replace hS := hS.rowEq (m' := ss.length) (cs' := ss.map vi) (by rw [hss]; rfl) (by rw [hss]; rfl)
 obtain ⟨z7, hz8, hS⟩ := St.freezeV (h0 := fun _ => rfl) (f := vi) (p := fun x => -9223372036854775808 ≤ x ∧ x ≤ 9223372036854775807) (xs := ss) hS rfl (by omega) hrg
 replace hS : St _ [_, _, _, _] [_] _ := hS
 refine hK5 _ _ ?_
 clear hK5
 refine wp_seq_k ?_; intro K6 hK6
 refine wp_seq_k ?_; intro K7 hK7
 refine reg hF hS (sq rfl (q_assign rfl) <|
   sq_end) ?_
 clear hF hS; intro a w hF hS
 refine hK7 _ _ ?_
 clear hK7
 refine wp_block ?_
 obtain ⟨hs0, hhs0, hS⟩ : ∃ h, h = _ ∧ St _ _ h _ := ⟨_, rfl, hS⟩
 refine wp_loopx (γ := Int) (0) (fun (i : Int) => [(12, vi i)]) [(7, _), (8, _), (9, _), (10, _), (11, _)] (fun (i : Int) => hs0) (fun (i : Int) => 0 ≤ i ∧ i ≤ 3) (fun (i : Int) => (3 - i).toNat) (hF.sub ⟨rfl, rfl, rfl, rfl, rfl, rfl, trivial⟩) (by subst hhs0; exact hS) (by exact ⟨Int.le_refl _, by omega⟩) ?_
 clear hF hS; rintro i a w hfact hF hS
 subst hhs0; (try dsimp only at hfact); (try dsimp only at hF); (try dsimp only at hS)
 obtain ⟨hi0, hi1⟩ := hfact
 replace hS : St _ [_, _, _, _] [_] _ := hS
 refine wp_seq_k ?_; intro K8 hK8
 refine wp_seq_k ?_; intro K9 hK9
 refine reg hF hS (sq rfl (q_move rfl) <|
   sq rfl (q_move rfl) <|
   sq rfl (q_len_sl ty22 hz8 rfl) <|
   sq rfl (q_lti rfl rfl) <|
   sq_end) ?_
 clear hF hS; intro a w hF hS
 refine hK9 _ _ ?_
 clear hK9
 refine wp_ifd hF rfl (fun hc1 => ?_) (fun hc1 => ?_)
 ·have hfit2 := Gu.part_fit (ss.getD i.toNat 0) hfit
  have hpl := Gu.ptX_len xs (ss.getD i.toNat 0) xs.length
  refine wp_skip ?_
  refine hK8 _ _ ?_
  clear hK8
  refine wp_seq_k ?_; intro K10 hK10
  refine wp_block ?_
  refine wp_seq_k ?_; intro K11 hK11
  revert hF hS; apply regJ (J := J5 (α0 := Value) (α1 := Value) (α2 := Value) (α3 := PH) (α4 := Nat) 97 _ _ _ _ _) #[false, false, false, false, false, false, false, false, false, false, false, false, false] 13 mixed rfl rfl
  ·intro w hF hS
   refine goW_take 0 _ rfl kQ rfl hF (hS.keep sQ sQ) (q_ld_blkW ty29 0 rfl rfl bQ rfl) ?_
   clear hF; intro a hF
   refine goW_take 1 _ rfl kQ rfl hF (hS.keep sQ zQ) (q_move rfl) ?_
   clear hF; intro a hF
   refine goW_take 2 _ rfl kQ rfl hF (hS.keep sQ zQ) (q_move rfl) ?_
   clear hF; intro a hF
   refine goW_take 3 _ rfl kQ rfl hF (hS.keep sQ zQ) (q_move rfl) ?_
   clear hF; intro a hF
   refine goW_take 4 _ rfl kQ rfl hF (hS.keep sQ zQ) (q_idx_sl ty22 ty3 hz8 rfl rfl (by omega)) ?_
   clear hF; intro a hF
   refine goW_take 5 _ rfl kQ rfl hF (hS.keep sQ zQ) (q_ld_I ty3 hz8 (.inr (by simp)) rfl rfl (by omega)) ?_
   clear hF; intro a hF
   refine goW_fork [6, 10] kQ rfl ⟨?_, ?_, trivial⟩
   ·refine stepW_ef _ rfl rfl hF hS rfl (ef_call fn34 rfl (fun w hS => part_ct _ _ _ _ _ _ _ _ (by omega) (by omega) (by omega) w (sl_one' hnF) (Sl.mono (hS.le (.inr (by simp))) hsF) (Sl.mono (hS.le (.inr (by simp))) hbF) (Sl.mono (hS.le (.inr (by simp))) hzE))) ?_
    clear hF hS; rintro _ _ _ a w ⟨_, _, rfl, rfl, ⟨sP, bP, mP, zP, rfl, hsP, hbP, hmP, rfl, rfl⟩⟩ hF hS
    refine ⟨⟨iQ, iQ, .inr (hS.keep (sQ.n) zQ), .inr (hS.keep (sQ.n) zQ), iQ, iQ, trivial⟩, ?_⟩
    refine goW_take 7 _ rfl kQ rfl hF (hS.keep sQ zQ) (q_move rfl) ?_
    clear hF; intro a hF
    refine goW_take 8 _ rfl kQ rfl hF (hS.keep sQ zQ) (q_extract rfl rfl) ?_
    clear hF; intro a hF
    refine goW_take 9 _ rfl kQ rfl hF (hS.keep sQ zQ) (q_extract rfl rfl) ?_
    clear hF; intro a hF
    refine gQ 10 rfl rfl hF hS rfl (ef_allocA ty29) ?_
    clear hF hS; rintro _ _ _ a w ⟨b_8_10, rfl, rfl, rfl⟩ hF hS
    refine ⟨⟨.inr (hS.keep sQ zQ), .inr (hS.keep sQ zQ), .inr (hS.keep sQ zQ), iQ, iQ, .inr (hS.keep (sQ.n) zQ), .inr (hS.keep (sQ.n) zQ), iQ, iQ, trivial⟩, ?_⟩
    refine gQ 11 rfl rfl hF hS rfl (ef_storeW ty29 0 rfl rfl rfl rfl bQ (oc_cons (sl_one' hnF) (oc_cons (sl_one' hsP) (oc_cons (sl_one' hbP) oc_nil))) bQ) ?_
    clear hF hS; rintro _ _ _ a w ⟨rfl, rfl, rfl⟩ hF hS
    refine ⟨⟨.inr (hS.keep sQ zQ), iQ, iQ, iQ, iQ, iQ, iQ, iQ, iQ, trivial⟩, ?_⟩
    refine goW_take 12 _ rfl kQ rfl hF (hS.keep sQ zQ) (q_assign rfl) ?_
    clear hF; intro a hF
    exact goW_done kQ (j5_mk sP bP mP zP b_8_10 ((And.intro hsP (And.intro hbP (And.intro hmP trivial)))) (hF.sub (L' := [(7, _), (8, _), (9, _), (10, _), (11, _), (12, _), (13, _), (14, _)]) ⟨rfl, rfl, rfl, rfl, rfl, rfl, rfl, rfl, trivial⟩) hS)
   ·refine stepW_ef _ rfl rfl hF hS rfl (ef_allocA ty29) ?_
    clear hF hS; rintro _ _ _ a w ⟨b_8_10, rfl, rfl, rfl⟩ hF hS
    refine ⟨⟨.inr (hS.keep sQ zQ), .inr (hS.keep sQ zQ), .inr (hS.keep sQ zQ), .inr (hS.keep sQ zQ), .inr (hS.keep sQ zQ), .inr (hS.keep sQ (sQ.n)), trivial⟩, ?_⟩
    refine gQ 6 rfl rfl hF hS rfl (ef_call fn34 rfl (fun w hS => part_ct _ _ _ _ _ _ _ _ (by omega) (by omega) (by omega) w (sl_one' hnF) (Sl.mono (hS.le (.inr (by simp))) hsF) (Sl.mono (hS.le (.inr (by simp))) hbF) (Sl.mono (hS.le (.inr (by simp))) hzE))) ?_
    clear hF hS; rintro _ _ _ a w ⟨_, _, rfl, rfl, ⟨sP, bP, mP, zP, rfl, hsP, hbP, hmP, rfl, rfl⟩⟩ hF hS
    refine ⟨⟨iQ, iQ, .inr (hS.keep (sQ.n) zQ), .inr (hS.keep (sQ.n) zQ), iQ, iQ, trivial⟩, ?_⟩
    refine goW_take 7 _ rfl kQ rfl hF (hS.keep sQ zQ) (q_move rfl) ?_
    clear hF; intro a hF
    refine goW_take 8 _ rfl kQ rfl hF (hS.keep sQ zQ) (q_extract rfl rfl) ?_
    clear hF; intro a hF
    refine goW_take 9 _ rfl kQ rfl hF (hS.keep sQ zQ) (q_extract rfl rfl) ?_
    clear hF; intro a hF
    refine gQ 11 rfl rfl hF hS rfl (ef_storeW ty29 0 rfl rfl rfl rfl bQ (oc_cons (sl_one' hnF) (oc_cons (sl_one' hsP) (oc_cons (sl_one' hbP) oc_nil))) bQ) ?_
    clear hF hS; rintro _ _ _ a w ⟨rfl, rfl, rfl⟩ hF hS
    refine ⟨⟨.inr (hS.keep sQ zQ), iQ, iQ, iQ, iQ, iQ, iQ, iQ, iQ, trivial⟩, ?_⟩
    refine goW_take 12 _ rfl kQ rfl hF (hS.keep sQ zQ) (q_assign rfl) ?_
    clear hF; intro a hF
    exact goW_done kQ (j5_mk sP bP mP zP b_8_10 ((And.intro hsP (And.intro hbP (And.intro hmP trivial)))) (hF.sub (L' := [(7, _), (8, _), (9, _), (10, _), (11, _), (12, _), (13, _), (14, _)]) ⟨rfl, rfl, rfl, rfl, rfl, rfl, rfl, rfl, trivial⟩) hS)
  rintro a w ⟨sP, bP, mP, zP, b_8_10, ⟨hsP, hbP, hmP, -⟩, hF, hS⟩
  (try dsimp only at hF); (try dsimp only at hS)
  refine hK11 _ _ ?_
  clear hK11
  refine wp_seq_k ?_; intro K12 hK12
  refine regl ?_
  refine wpl_sq hF hS (sq rfl (q_ld_blkW ty29 0 rfl rfl bQ rfl) <|
    sq rfl (q_call fn14 rfl (fun w hS => own_ct _ _ _ _ _ w (sl_one' hnF) (Sl.mono (hS.le (.inr (by simp))) hsP) (Sl.mono (hS.le (.inr (by simp))) hbP)) (fun _ _ _ h => h)) <|
    sq rfl (q_move rfl) <|
    sq_end) ?_
  clear hF hS; intro a w hF hS
  refine wpl_ef hF hS rfl (ef_call fn13 rfl (fun w hS => guilty_ct _ _ _ _ _ _ _ (by first | with_reducible assumption | omega) w (sl_one' hnF) (Sl.mono (hS.le (.inr (by simp))) hsP) (Sl.mono (hS.le (.inr (by simp))) hbP) (Sl.mono (hS.le (.inr (by simp))) hmP))) ?_
  clear hF hS; rintro _ _ _ a w ⟨_, _, rfl, rfl, ⟨vA, zA, hzA, rfl, rfl, rfl⟩⟩ hF hS
  replace hS : St _ [_, _, _, _, _, _] [_, _] _ := hS
  refine wpl_sq hF hS (sq rfl (q_move rfl) <|
    sq rfl (q_extract rfl rfl) <|
    sq rfl (q_extract rfl rfl) <|
    sq rfl (q_assign rfl) <|
    sq rfl (q_assign rfl) <|
    sq_end) ?_
  clear hF hS; intro a w hF hS
  refine wpList_nil ?_
  have hge2 : Gu.ge (Gu.ptX xs (ss.getD i.toNat 0) xs.length) (Gu.ptB xs (ss.getD i.toNat 0) xb xs.length) (Gu.ptB xs (ss.getD i.toNat 0) M xs.length) = 0 := by unfold Gu.ge; rw [if_pos hfit2]
  have hAe : Gu.gl (Gu.ptX xs (ss.getD i.toNat 0) xs.length) (Gu.ptB xs (ss.getD i.toNat 0) xb xs.length) (Gu.ptB xs (ss.getD i.toNat 0) M xs.length) = G.filter fun y => Gu.wi y (ss.getD i.toNat 0) := by rw [Gu.gl_fit hfit2, Gu.within_law hfam.1 hr9 hML, hGe]
  refine hK12 _ _ ?_
  clear hK12
  refine wp_seq_k ?_; intro K13 hK13
  refine reg hF hS (sq rfl (q_assign rfl) <|
    sq_end) ?_
  clear hF hS; intro a w hF hS
  replace hS := hS.nilRow 3 1
  refine hK13 _ _ ?_
  clear hK13
  refine wp_seq_k ?_; intro K14 hK14
  refine wp_seq_k ?_; intro K15 hK15
  refine reg hF hS (sq rfl (q_assign rfl) <|
    sq_end) ?_
  clear hF hS; intro a w hF hS
  refine hK15 _ _ ?_
  clear hK15
  refine wp_block ?_
  obtain ⟨hs0, hhs0, hS⟩ : ∃ h, h = _ ∧ St _ _ h _ := ⟨_, rfl, hS⟩
  refine wp_loopx (γ := Value × Int) ((Value.slice none 0 0), 0) (fun (gg : Value × Int) => match gg with | (u, j) => [(17, u), (18, vi j)]) [(7, _), (8, _), (9, _), (10, _), (11, _), (12, _), (15, _), (16, _)] (fun (gg : Value × Int) => match gg with | (u, j) => (hs0.set 0 (.row u 3 1 ((G.take j.toNat).filter fun y => Gu.wi y (ss.getD i.toNat 0)).length (((G.take j.toNat).filter fun y => Gu.wi y (ss.getD i.toNat 0)).map vi)))) (fun (gg : Value × Int) => match gg with | (u, j) => 0 ≤ j ∧ j ≤ G.length) (fun (gg : Value × Int) => match gg with | (u, j) => (G.length - j).toNat) (hF.sub ⟨rfl, rfl, rfl, rfl, rfl, rfl, rfl, rfl, rfl, rfl, trivial⟩) (by subst hhs0; exact hS) (by exact ⟨Int.le_refl _, by omega⟩) ?_
  clear hF hS; rintro ⟨u, j⟩ a w hfact hF hS
  subst hhs0; (try dsimp only at hfact); (try dsimp only at hF); (try dsimp only at hS)
  obtain ⟨hj0, hj1⟩ := hfact
  replace hS : St _ [_, _, _, _, _, _] [_, _, _] _ := hS
  have hfl : ((G.take j.toNat).filter fun y => Gu.wi y (ss.getD i.toNat 0)).length ≤ 32 := by have := List.length_filter_le (fun y => Gu.wi y (ss.getD i.toNat 0)) (G.take j.toNat); rw [List.length_take] at this; omega
  refine wp_seq_k ?_; intro K16 hK16
  refine wp_seq_k ?_; intro K17 hK17
  refine reg hF hS (sq rfl (q_move rfl) <|
    sq rfl (q_move rfl) <|
    sq rfl (q_len_sl ty22 hzG rfl) <|
    sq rfl (q_lti rfl rfl) <|
    sq_end) ?_
  clear hF hS; intro a w hF hS
  refine hK17 _ _ ?_
  clear hK17
  refine wp_ifd hF rfl (fun hc2 => ?_) (fun hc2 => ?_)
  ·refine wp_skip ?_
   refine hK16 _ _ ?_
   clear hK16
   refine wp_seq_k ?_; intro K18 hK18
   refine wp_block ?_
   refine wp_seq_k ?_; intro K19 hK19
   refine regd mixed kQ hF hS (sq rfl (q_move rfl) <|
     sq rfl (q_move rfl) <|
     sq rfl (q_idx_sl ty22 ty3 hzG rfl rfl (by omega)) <|
     sq rfl (q_ld_I ty3 hzG (.inr (by simp)) rfl rfl (by omega)) <|
     sq rfl (q_move rfl) <|
     sq rfl (q_move rfl) <|
     sq rfl (q_idx_sl ty22 ty3 hz8 rfl rfl (by omega)) <|
     sq rfl (q_ld_I ty3 hz8 (.inr (by simp)) rfl rfl (by omega)) <|
     sq rfl (q_call fn30 rfl (fun w hS => in_ct _ _ w ) (fun _ _ _ h => h)) <|
     sq_end) ?_
   clear hF hS; intro a w hF hS
   refine hK19 _ _ ?_
   clear hK19
   refine wp_if hF rfl (fun hc3 => ?_) (fun hc3 => ?_)
   ·refine regl ?_
    refine wpl_sq hF hS (sq rfl (q_move rfl) <|
      sq rfl (q_move rfl) <|
      sq rfl (q_move rfl) <|
      sq rfl (q_idx_sl ty22 ty3 hzG rfl rfl (by omega)) <|
      sq rfl (q_ld_I ty3 hzG (.inr (by simp)) rfl rfl (by omega)) <|
      sq_end) ?_
    clear hF hS; intro a w hF hS
    refine wpl_ef hF hS rfl (ef_bsliceA ty22 ty3 rfl rfl oQ (by decide) rfl rfl) ?_
    clear hF hS; rintro v11 _ _ a w ⟨rfl, rfl⟩ hF hS
    replace hS : St _ [_, _, _, _, _, _] [_, _, _, _] _ := hS
    refine wpl_ef hF hS rfl (ef_append ty22 ty3 1 rfl rfl rfl (src_row ty22 (k := 0) rfl oQ) bQ rfl (by decide)) ?_
    clear hF hS; rintro v13 _ _ a w ⟨rfl, rfl⟩ hF hS
    replace hS : St _ [_, _, _, _, _, _] [_, _, _, _] _ := hS
    refine wpl_sq hF hS (sq rfl (q_assign rfl) <|
      sq_end) ?_
    clear hF hS; intro a w hF hS
    refine wpList_nil ?_
    refine hK18 _ _ ?_
    clear hK18
    refine reg hF hS (sq rfl (q_move rfl) <|
      sq rfl (q_addi rfl rfl (by omega)) <|
      sq rfl (q_assign rfl) <|
      sq_end) ?_
    clear hF hS; intro a w hF hS
    replace hS := hS.keep sQ (sQ.n)
    refine ⟨(v13, j + 1), ?_, ?_, hF.sub ⟨rfl, rfl, rfl, rfl, rfl, rfl, rfl, rfl, rfl, rfl, trivial⟩, ?_⟩
    ·(try dsimp only); omega
    ·(try dsimp only); omega
    ·exact hS.rowEq (by rw [show (j + 1).toNat = j.toNat + 1 by omega, Gu.fl_step (p := fun y => Gu.wi y (ss.getD i.toNat 0)) (by omega) hc3, List.length_append]; rfl) (by rw [show (j + 1).toNat = j.toNat + 1 by omega, Gu.fl_step (p := fun y => Gu.wi y (ss.getD i.toNat 0)) (by omega) hc3, List.map_append]; rfl)
   ·refine wp_skip ?_
    refine hK18 _ _ ?_
    clear hK18
    refine reg hF hS (sq rfl (q_move rfl) <|
      sq rfl (q_addi rfl rfl (by omega)) <|
      sq rfl (q_assign rfl) <|
      sq_end) ?_
    clear hF hS; intro a w hF hS
    refine ⟨(u, j + 1), ?_, ?_, hF.sub ⟨rfl, rfl, rfl, rfl, rfl, rfl, rfl, rfl, rfl, rfl, trivial⟩, ?_⟩
    ·(try dsimp only); omega
    ·(try dsimp only); omega
    ·dsimp only; rw [show (j + 1).toNat = j.toNat + 1 by omega, Gu.fl_stay (p := fun y => Gu.wi y (ss.getD i.toNat 0)) (by omega) hc3]; exact hS
  ·obtain rfl : j = G.length := by omega
   rw [Int.toNat_natCast, List.take_length] at hS hfl
   have hrw : ∀ x ∈ (G.filter fun y => Gu.wi y (ss.getD i.toNat 0)), -9223372036854775808 ≤ x ∧ x ≤ 9223372036854775807 := fun x hx => sl_rng hzG x (List.mem_filter.1 hx).1
   refine wp_exit ?_
   refine hK14 _ _ ?_
   clear hK14
   refine wp_seq_k ?_; intro K20 hK20
   refine reg hF hS (sq rfl (q_move rfl) <|
     sq rfl (q_nf (q_nei rfl rfl) (hge)) <|
     sq rfl (q_move rfl) <|
     sq_go 86 rfl rfl rfl (q_move rfl) <|
     sq_go 86 rfl rfl rfl (q_nf (q_nei rfl rfl) (hge2)) <|
     sq rfl (q_pick_f rfl rfl) <|
     sq rfl (q_move rfl) <|
     sq_go 90 rfl rfl rfl (q_move rfl) <|
     sq_go 90 rfl rfl rfl (q_move rfl) <|
     sq_go 90 rfl rfl rfl (q_dt (q_call fn18 rfl (fun w hS => samei_ct _ _ _ _ w (Sl.mono (hS.le (.inr (by simp))) hzA) (own_slV (hS.own _ (List.mem_of_getElem? (i := 0) rfl)).1 (by first | assumption | (simp; done)) (by first | rfl | (simp; done) | (simp; omega) | omega) (by first | omega | (simp; omega)))) (fun _ _ _ h => h)) (hAe)) <|
     sq_go 90 rfl rfl rfl (q_not rfl) <|
     sq rfl (q_pick_f rfl rfl) <|
     sq_end) ?_
   clear hF hS; intro a w hF hS
   refine hK20 _ _ ?_
   clear hK20
   refine wp_if hF rfl (fun h => absurd h (by simp)) (fun _ => ?_)
   refine wp_skip ?_
   refine hK10 _ _ ?_
   clear hK10
   refine reg hF hS (sq rfl (q_move rfl) <|
     sq rfl (q_addi rfl rfl (by omega)) <|
     sq rfl (q_assign rfl) <|
     sq_end) ?_
   clear hF hS; intro a w hF hS
   replace hS := hS.keep (sQ.n.n) (sQ.n.n)
   refine ⟨(i + 1), ?_, ?_, hF.sub ⟨rfl, rfl, rfl, rfl, rfl, rfl, trivial⟩, ?_⟩
   ·(try dsimp only); omega
   ·(try dsimp only); omega
   ·exact hS
 ·refine wp_exit ?_
  refine hK6 _ _ ?_
  clear hK6
  refine wp_seq_k ?_; intro K21 hK21
  refine reg hF hS (sq rfl (q_call fn19 rfl (fun w hS => lives_ct w ) (fun _ _ _ h => h)) <|
    sq rfl (q_assign rfl) <|
    sq_end) ?_
  clear hF hS; intro a w hF hS
  refine hK21 _ _ ?_
  clear hK21
  refine wp_ret ?_
  exact fn_ret (rs := [.tmp 6]) rfl hF hS (vs := [_]) ⟨rfl, trivial⟩ zQ zQ (rfl)
end Go.Proofs.Ytcbjemjohacbpaa
