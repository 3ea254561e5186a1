/- A text of a proof over this seat: walks over the program's functions and the plain laws that they need. -/
import Derived.Test.YtcbjemjohacbpaaGg19
import Derived.Test.YtcbjemjohacbpaaGuA
import Derived.Test.YtcbjemjohacbpaaFwB
set_option linter.all false
namespace Go.Proofs.Ytcbjemjohacbpaa
open Go.Fw
theorem fn31 : FnOk Try.prog 31 := ⟨_, Try.func31, rfl, by kernel_rfl⟩

set_option maxRecDepth 4000 in
set_option maxHeartbeats 2000000 in
theorem law21_ct (v : Value) (l : List Int) (v2 : Value) (m : List Int) (t : Int) (ht9 : -9223372036854775808 ≤ t ∧ t ≤ 9223372036854775807) (w : World) (hl : Sl encI (ph w) v l) (hm : Sl encI (ph w) v2 m) : Ct Try.prog 7 [v, v2, vi t] w (fun r _ _ => r = .bool true) := by
 refine fn_enter Try.func7 rfl Try.ntmps7 (Nat.le_of_ble_eq_true rfl) fun a hF hS => ?_
 refine wp_seq_k ?_; intro K1 hK1
 refine reg hF hS (sq rfl (q_assign rfl) <|
   sq_end) ?_
 clear hF hS; intro a w hF hS
 refine hK1 _ _ ?_
 clear hK1
 refine wp_seq_k ?_; intro K2 hK2
 refine regl ?_
 refine wpl_sq hF hS (sq rfl (q_move rfl) <|
   sq_end) ?_
 clear hF hS; intro a w hF hS
 refine wpl_ef hF hS rfl (ef_call fn28 rfl (fun w hS => family_ct _ _ w (Sl.mono (hS.le zin0) hl))) ?_
 clear hF hS; rintro _ _ _ a w ⟨_, _, rfl, rfl, ⟨nvF, svF, bvF, ns, xs, xb, zF, rfl, hnF, hsF, hbF, lnF, lsF, lbF, leqF, rfl, rfl⟩⟩ hF hS
 replace hS : St _ [_] [] _ := hS
 refine wpl_ef hF hS rfl (ef_allocA ty29) ?_
 clear hF hS; rintro _ _ _ a w ⟨b2, rfl, rfl, rfl⟩ hF hS
 refine wpl_ef hF hS rfl (ef_storeW ty29 0 rfl rfl rfl rfl bQ (oc_cons (sl_one' hnF) (oc_cons (sl_one' hsF) (oc_cons (sl_one' hbF) oc_nil))) bQ) ?_
 clear hF hS; rintro _ _ _ a w ⟨rfl, rfl, rfl⟩ hF hS
 replace hS : St _ [_] [_] _ := hS
 refine wpList_nil ?_
 obtain ⟨heq, hfam⟩ := leqF rfl
 have hr9 := Gu.fam_r hfam
 have hmin : min xs.length xb.length = xs.length := by omega
 refine hK2 _ _ ?_
 clear hK2
 refine wp_seq_k ?_; intro K3 hK3
 refine regl ?_
 refine wpl_sq hF hS (sq rfl (q_ld_blkW ty29 0 rfl rfl bQ rfl) <|
   sq rfl (q_move rfl) <|
   sq_end) ?_
 clear hF hS; intro a w hF hS
 refine wpl_ef hF hS rfl (ef_call fn12 rfl (fun w hS => each_ct _ _ _ _ _ _ _ (by first | with_reducible assumption | omega) w (sl_one' hnF) (Sl.mono (hS.le (.inr (by simp))) hsF) (Sl.mono (hS.le (.inr (by simp))) hbF) (Sl.mono (hS.le zin0) hm))) ?_
 clear hF hS; rintro v3 _ _ a w ⟨_, _, rfl, rfl, ⟨zE, hzE, rfl, rfl⟩⟩ hF hS
 replace hS : St _ [_, _] [_] _ := hS
 refine wpl_sq hF hS (sq rfl (q_assign rfl) <|
   sq_end) ?_
 clear hF hS; intro a w hF hS
 refine wpList_nil ?_
 rw [hmin] at hzE
 have hfit := Gu.eac_fit xs xb m heq
 obtain ⟨M, hM⟩ : ∃ M, M = Gu.eac xb m xs.length := ⟨_, rfl⟩
 rw [← hM] at hzE hfit
 have hML := (Gu.fits_use hfit).1
 have hge : Gu.ge xs xb M = 0 := by unfold Gu.ge; rw [if_pos hfit]
 refine hK3 _ _ ?_
 clear hK3
 refine wp_seq_k ?_; intro K4 hK4
 refine reg hF hS (sq rfl (q_move rfl) <|
   sq rfl (q_move rfl) <|
   sq rfl (q_len_sl ty23 hzE rfl) <|
   sq rfl (q_max rfl rfl) <|
   sq rfl (q_call fn25 rfl (fun w hS => arnd_ct _ _ (by omega) (by omega) w ) (fun _ _ _ h => h)) <|
   sq rfl (q_assign rfl) <|
   sq_end) ?_
 clear hF hS; intro a w hF hS
 have har := Gu.arnd_range (n := t) (m := max (M.length : Int) 1) (by omega)
 obtain ⟨k, hk9⟩ : ∃ k, k = Gu.arnd t (max (M.length : Int) 1) := ⟨_, rfl⟩
 rw [← hk9] at hF har
 refine hK4 _ _ ?_
 clear hK4
 refine wp_seq_k ?_; intro K5 hK5
 refine wp_seq_k ?_; intro K6 hK6
 refine regl ?_
 refine wpl_sq hF hS (sq rfl (q_move rfl) <|
   sq rfl (q_move rfl) <|
   sq rfl (q_len_sl ty23 hzE rfl) <|
   sq rfl (q_gei rfl rfl) <|
   sq rfl (q_move rfl) <|
   sq_end) ?_
 clear hF hS; intro a w hF hS
 refine wpl_or 4 33 6 hF hS rfl rfl rfl rfl rfl (fun hg => have hg := (by first | exact of_decide_eq_false hg | exact hg); sq_go 33 rfl rfl rfl (q_fieldAddr ty29 rfl rfl (s' := 0) kQ) <|
   sq_go 33 rfl rfl rfl (q_ld_blk1 ty23 0 rfl rfl rfl rfl) <|
   sq_go 33 rfl rfl rfl (q_move rfl) <|
   sq_go 33 rfl rfl rfl (q_idx_sl ty23 ty4 hbF rfl rfl (by omega)) <|
   sq_go 33 rfl rfl rfl (q_ld_T ty4 hbF (.inr (by simp)) rfl rfl (by omega)) <|
   sq_go 33 rfl rfl rfl (q_not rfl) <|
   sq_end) rfl rfl ?_
 clear hF hS; intro a w hF hS
 refine wpl_sq hF hS (sq rfl (q_move rfl) <|
   sq_end) ?_
 clear hF hS; intro a w hF hS
 refine wpl_or 12 41 4 hF hS rfl rfl rfl rfl rfl (fun hg => have hg := hg; sq_go 41 rfl rfl rfl (q_move rfl) <|
   sq_go 41 rfl rfl rfl (q_move rfl) <|
   sq_go 41 rfl rfl rfl (q_idx_sl ty23 ty4 hzE rfl rfl (by simp at hg; omega)) <|
   sq_go 41 rfl rfl rfl (q_ld_T ty4 hzE (.inr (by simp)) rfl rfl (by simp at hg; omega)) <|
   sq_end) rfl rfl ?_
 clear hF hS; intro a w hF hS
 refine wpList_nil ?_
 refine hK6 _ _ ?_
 clear hK6
 refine wp_if hF rfl (fun hc1 => ?_) (fun hc1 => ?_)
 ·(try simp only [Bool.or_eq_true, Bool.and_eq_true, Bool.or_eq_false_iff, Bool.and_eq_false_iff, decide_eq_true_eq, decide_eq_false_iff_not, Bool.not_eq_true', Bool.not_eq_false'] at hc1)
  refine wp_seq_k ?_; intro K7 hK7
  refine reg hF hS (sq rfl (q_call fn19 rfl (fun w hS => lives_ct w ) (fun _ _ _ h => h)) <|
    sq rfl (q_assign rfl) <|
    sq_end) ?_
  clear hF hS; intro a w hF hS
  refine hK7 _ _ ?_
  clear hK7
  refine wp_ret ?_
  exact fn_ret (rs := [.tmp 6]) rfl hF hS (vs := [_]) ⟨rfl, trivial⟩ zQ zQ (rfl)
 ·(try simp only [Bool.or_eq_true, Bool.and_eq_true, Bool.or_eq_false_iff, Bool.and_eq_false_iff, decide_eq_true_eq, decide_eq_false_iff_not, Bool.not_eq_true', Bool.not_eq_false'] at hc1)
  have hu9 : M.getD k.toNat false = false := hc1.2
  have hb9 : xb.getD k.toNat false = true := by simpa using hc1.1.2
  have hk0 : k < M.length := by have := hc1.1.1; omega
  have hfit2 := Gu.more_fit (k := k.toNat) hfit (by omega) hb9
  refine wp_skip ?_
  refine hK5 _ _ ?_
  clear hK5
  refine wp_seq_k ?_; intro K8 hK8
  refine regl ?_
  refine wpl_sq hF hS (sq rfl (q_ld_blkW ty29 0 rfl rfl bQ rfl) <|
    sq rfl (q_call fn14 rfl (fun w hS => own_ct _ _ _ _ _ w (sl_one' hnF) (Sl.mono (hS.le (.inr (by simp))) hsF) (Sl.mono (hS.le (.inr (by simp))) hbF)) (fun _ _ _ h => h)) <|
    sq rfl (q_move rfl) <|
    sq_end) ?_
  clear hF hS; intro a w hF hS
  refine wpl_ef hF hS rfl (ef_call fn13 rfl (fun w hS => guilty_ct _ _ _ _ _ _ _ (by first | with_reducible assumption | omega) w (sl_one' hnF) (Sl.mono (hS.le (.inr (by simp))) hsF) (Sl.mono (hS.le (.inr (by simp))) hbF) (Sl.mono (hS.le (.inr (by simp))) hzE))) ?_
  clear hF hS; rintro _ _ _ a w ⟨_, _, rfl, rfl, ⟨vG, zG, hzG, rfl, rfl, rfl⟩⟩ hF hS
  replace hS : St _ [_, _, _] [_] _ := hS
  refine wpl_sq hF hS (sq rfl (q_move rfl) <|
    sq rfl (q_extract rfl rfl) <|
    sq rfl (q_extract rfl rfl) <|
    sq rfl (q_assign rfl) <|
    sq rfl (q_assign rfl) <|
    sq_end) ?_
  clear hF hS; intro a w hF hS
  refine wpList_nil ?_
  have hGe : Gu.gl xs xb M = Gu.minl xs M := Gu.gl_fit hfit
  obtain ⟨G, hG⟩ : ∃ G, G = Gu.gl xs xb M := ⟨_, rfl⟩
  rw [← hG] at hzG hGe
  have hGl : G.length ≤ 32 := by have := Gu.gl_len xs xb M; rw [← hG] at this; omega
  have hGn : G.Nodup := hG ▸ Gu.gl_nodup xs xb M
  refine hK8 _ _ ?_
  clear hK8
  refine wp_seq_k ?_; intro K9 hK9
  refine regl ?_
  refine wpl_ef hF hS rfl (ef_bslice0 ty23 ty4) ?_
  clear hF hS; rintro v5 _ _ a w ⟨rfl, rfl⟩ hF hS
  replace hS : St _ [_, _, _] [_, _] _ := hS
  refine wpl_sq hF hS (sq rfl (q_move rfl) <|
    sq_end) ?_
  clear hF hS; intro a w hF hS
  refine wpl_ef hF hS rfl (ef_append ty23 ty4 0 rfl rfl rfl (src_slV ty23 hzE (.inr (by simp))) bQ rfl (by decide)) ?_
  clear hF hS; rintro v7 _ _ a w ⟨rfl, rfl⟩ hF hS
  replace hS : St _ [_, _, _] [_, _] _ := hS
  refine wpl_sq hF hS (sq rfl (q_assign rfl) <|
    sq_end) ?_
  clear hF hS; intro a w hF hS
  refine wpList_nil ?_
  refine hK9 _ _ ?_
  clear hK9
  refine wp_seq_k ?_; intro K10 hK10
  refine regl ?_
  refine wpl_sq hF hS (sq rfl (q_move rfl) <|
    sq rfl (q_move rfl) <|
    sq rfl (q_idx_row ty23 ty4 0 rfl rfl rfl (by omega)) <|
    sq_end) ?_
  clear hF hS; intro a w hF hS
  refine wpl_ef hF hS rfl (ef_st_row ty4 0 rfl rfl rfl (by omega) rfl) ?_
  clear hF hS; rintro _ _ _ a w ⟨rfl, rfl, rfl⟩ hF hS
  replace hS : St _ [_, _, _] [_, _] _ := hS
  refine wpList_nil ?_
  replace hS := hS.rowEq (m' := (M.set k.toNat true).length) (cs' := (M.set k.toNat true).map vt) (by simp) (by simp [List.map_set, vt])
  obtain ⟨z8, hz9, hS⟩ := St.freezeV (h0 := fun _ => rfl) (f := vt) (p := fun _ => True) (xs := (M.set k.toNat true)) hS rfl (by rw [List.length_set]; omega) (fun _ _ => trivial)
  replace hS : St _ [_, _, _, _] [_] _ := hS
  refine hK10 _ _ ?_
  clear hK10
  refine wp_seq_k ?_; intro K11 hK11
  refine regl ?_
  refine wpl_sq hF hS (sq rfl (q_ld_blkW ty29 0 rfl rfl bQ rfl) <|
    sq rfl (q_call fn14 rfl (fun w hS => own_ct _ _ _ _ _ w (sl_one' hnF) (Sl.mono (hS.le (.inr (by simp))) hsF) (Sl.mono (hS.le (.inr (by simp))) hbF)) (fun _ _ _ h => h)) <|
    sq rfl (q_move rfl) <|
    sq_end) ?_
  clear hF hS; intro a w hF hS
  refine wpl_ef hF hS rfl (ef_call fn13 rfl (fun w hS => guilty_ct _ _ _ _ _ _ _ (by first | with_reducible assumption | omega) w (sl_one' hnF) (Sl.mono (hS.le (.inr (by simp))) hsF) (Sl.mono (hS.le (.inr (by simp))) hbF) (Sl.mono (hS.le (.inr (by simp))) hz9))) ?_
  clear hF hS; rintro _ _ _ a w ⟨_, _, rfl, rfl, ⟨vA, zA, hzA, rfl, rfl, rfl⟩⟩ hF hS
  replace hS : St _ [_, _, _, _, _] [_] _ := hS
  refine wpl_sq hF hS (sq rfl (q_move rfl) <|
    sq rfl (q_extract rfl rfl) <|
    sq rfl (q_extract rfl rfl) <|
    sq rfl (q_assign rfl) <|
    sq rfl (q_assign rfl) <|
    sq_end) ?_
  clear hF hS; intro a w hF hS
  refine wpList_nil ?_
  have hge2 : Gu.ge xs xb (M.set k.toNat true) = 0 := by unfold Gu.ge; rw [if_pos hfit2]
  have hAe : Gu.gl xs xb (M.set k.toNat true) = Gu.minl xs (M.set k.toNat true) := Gu.gl_fit hfit2
  obtain ⟨A, hAq⟩ : ∃ A, A = Gu.gl xs xb (M.set k.toNat true) := ⟨_, rfl⟩
  rw [← hAq] at hzA hAe
  have hnew := Gu.more_new hfam.1 hr9 (k := k.toNat) (M := M) (by omega) (by omega) hu9
  rw [← hAe, ← hGe] at hnew
  have hlen := Gu.more_len hfam.1 hr9 (k := k.toNat) (M := M) (by omega) (by omega) hu9
  rw [← hAe, ← hGe] at hlen
  refine hK11 _ _ ?_
  clear hK11
  refine wp_seq_k ?_; intro K12 hK12
  refine wp_seq_k ?_; intro K13 hK13
  refine reg hF hS (sq rfl (q_move rfl) <|
    sq rfl (q_nf (q_nei rfl rfl) (hge)) <|
    sq rfl (q_move rfl) <|
    sq_go 70 rfl rfl rfl (q_move rfl) <|
    sq_go 70 rfl rfl rfl (q_nf (q_nei rfl rfl) (hge2)) <|
    sq rfl (q_pick_f rfl rfl) <|
    sq_end) ?_
  clear hF hS; intro a w hF hS
  refine hK13 _ _ ?_
  clear hK13
  refine wp_if hF rfl (fun h => absurd h (by simp)) (fun _ => ?_)
  refine wp_skip ?_
  refine hK12 _ _ ?_
  clear hK12
  refine wp_seq_k ?_; intro K14 hK14
  refine reg hF hS (sq rfl (q_assign rfl) <|
    sq_end) ?_
  clear hF hS; intro a w hF hS
  refine hK14 _ _ ?_
  clear hK14
  refine wp_seq_k ?_; intro K15 hK15
  refine reg hF hS (sq rfl (q_assign rfl) <|
    sq_end) ?_
  clear hF hS; intro a w hF hS
  refine hK15 _ _ ?_
  clear hK15
  refine wp_seq_k ?_; intro K16 hK16
  refine wp_seq_k ?_; intro K17 hK17
  refine reg hF hS (sq rfl (q_assign rfl) <|
    sq_end) ?_
  clear hF hS; intro a w hF hS
  refine hK17 _ _ ?_
  clear hK17
  refine wp_block ?_
  obtain ⟨hs0, hhs0, hS⟩ : ∃ h, h = _ ∧ St _ _ h _ := ⟨_, rfl, hS⟩
  refine wp_loopx (γ := Int) (0) (fun (i : Int) => [(17, vi i), (15, .bool ((G.take i.toNat).all fun y => !Gu.wi y (xs.getD k.toNat 0))), (16, vi (((G.take i.toNat).filter fun y => !Gu.wi (xs.getD k.toNat 0) y).length : Int))]) [(7, _), (9, _), (10, _), (13, _)] (fun (i : Int) => hs0) (fun (i : Int) => 0 ≤ i ∧ i ≤ G.length) (fun (i : Int) => (G.length - i).toNat) (hF.sub ⟨rfl, rfl, rfl, rfl, rfl, rfl, rfl, trivial⟩) (by subst hhs0; exact hS) (by exact ⟨Int.le_refl _, by omega⟩) ?_
  clear hF hS; rintro i a w hfact hF hS
  subst hhs0; (try dsimp only at hfact); (try dsimp only at hF); (try dsimp only at hS)
  obtain ⟨hi0, hi1⟩ := hfact
  replace hS : St _ [_, _, _, _, _] [_] _ := hS
  have hfl : (((G.take i.toNat).filter fun y => !Gu.wi (xs.getD k.toNat 0) y).length : Int) ≤ 32 := by have := List.length_filter_le (fun y => !Gu.wi (xs.getD k.toNat 0) y) (G.take i.toNat); rw [List.length_take] at this; omega
  refine wp_seq_k ?_; intro K18 hK18
  refine wp_seq_k ?_; intro K19 hK19
  refine reg hF hS (sq rfl (q_move rfl) <|
    sq rfl (q_move rfl) <|
    sq rfl (q_len_sl ty22 hzG rfl) <|
    sq rfl (q_lti rfl rfl) <|
    sq_end) ?_
  clear hF hS; intro a w hF hS
  refine hK19 _ _ ?_
  clear hK19
  refine wp_ifd hF rfl (fun hc3 => ?_) (fun hc3 => ?_)
  ·have hin : decide (G.getD i.toNat 0 ∈ A) = !Gu.wi (xs.getD k.toNat 0) (G.getD i.toNat 0) := by rw [hAe]; exact Gu.more_old hfam.1 hr9 (by omega) (by omega) hu9 (hGe ▸ getD_mem (by omega))
   refine wp_skip ?_
   refine hK18 _ _ ?_
   clear hK18
   refine wp_seq_k ?_; intro K20 hK20
   refine wp_block ?_
   refine wp_seq_k ?_; intro K21 hK21
   refine regq mixed kQ hS ?_
   refine wpq_seg hF (sq rfl (q_move rfl) <|
     sq rfl (q_move rfl) <|
     sq_end) ?_
   clear hF; intro a hF
   refine wpq_and 1 81 11 hF rfl rfl rfl rfl rfl (fun hg => have hg := hg; sq_go 81 rfl rfl rfl (q_move rfl) <|
     sq_go 81 rfl rfl rfl (q_move rfl) <|
     sq_go 81 rfl rfl rfl (q_idx_sl ty22 ty3 hzG rfl rfl (by omega)) <|
     sq_go 81 rfl rfl rfl (q_ld_I ty3 hzG (.inr (by simp)) rfl rfl (by omega)) <|
     sq_go 81 rfl rfl rfl (q_fieldAddr ty29 rfl rfl (s' := 0) kQ) <|
     sq_go 81 rfl rfl rfl (q_ld_blk1 ty22 0 rfl rfl rfl rfl) <|
     sq_go 81 rfl rfl rfl (q_move rfl) <|
     sq_go 81 rfl rfl rfl (q_idx_sl ty22 ty3 hsF rfl rfl (by omega)) <|
     sq_go 81 rfl rfl rfl (q_ld_I ty3 hsF (.inr (by simp)) rfl rfl (by omega)) <|
     sq_go 81 rfl rfl rfl (q_call fn30 rfl (fun w hS => in_ct _ _ w ) (fun _ _ _ h => h)) <|
     sq_go 81 rfl rfl rfl (q_not rfl) <|
     sq_end) rfl rfl ?_
   clear hF; intro a hF
   refine wpq_seg hF (sq rfl (q_assign rfl) <|
     sq_end) ?_
   clear hF; intro a hF
   refine wpq_nil ?_
   clear hS; intro w hS
   refine hK21 _ _ ?_
   clear hK21
   refine wp_seq_k ?_; intro K22 hK22
   refine regd mixed kQ hF hS (sq rfl (q_fieldAddr ty29 rfl rfl (s' := 0) kQ) <|
     sq rfl (q_ld_blk1 ty22 0 rfl rfl rfl rfl) <|
     sq rfl (q_move rfl) <|
     sq rfl (q_idx_sl ty22 ty3 hsF rfl rfl (by omega)) <|
     sq rfl (q_ld_I ty3 hsF (.inr (by simp)) rfl rfl (by omega)) <|
     sq rfl (q_move rfl) <|
     sq rfl (q_move rfl) <|
     sq rfl (q_idx_sl ty22 ty3 hzG rfl rfl (by omega)) <|
     sq rfl (q_ld_I ty3 hzG (.inr (by simp)) rfl rfl (by omega)) <|
     sq rfl (q_call fn30 rfl (fun w hS => in_ct _ _ w ) (fun _ _ _ h => h)) <|
     sq rfl (q_not rfl) <|
     sq rfl (q_assign rfl) <|
     sq_end) ?_
   clear hF hS; intro a w hF hS
   refine hK22 _ _ ?_
   clear hK22
   refine wp_seq_k ?_; intro K23 hK23
   refine wp_seq_k ?_; intro K24 hK24
   refine reg hF hS (sq rfl (q_move rfl) <|
     sq_end) ?_
   clear hF hS; intro a w hF hS
   refine hK24 _ _ ?_
   clear hK24
   refine wp_if hF rfl (fun hc4 => ?_) (fun hc4 => ?_)
   ·refine reg hF hS (sq rfl (q_move rfl) <|
      sq rfl (q_addi rfl rfl (by omega)) <|
      sq rfl (q_assign rfl) <|
      sq_end) ?_
    clear hF hS; intro a w hF hS
    refine hK23 _ _ ?_
    clear hK23
    refine wp_seq_k ?_; intro K25 hK25
    refine reg hF hS (sq rfl (q_move rfl) <|
      sq rfl (q_move rfl) <|
      sq rfl (q_move rfl) <|
      sq rfl (q_idx_sl ty22 ty3 hzG rfl rfl (by omega)) <|
      sq rfl (q_ld_I ty3 hzG (.inr (by simp)) rfl rfl (by omega)) <|
      sq rfl (q_call fn31 rfl (fun w hS => inl_ct _ _ _ w (Sl.mono (hS.le (.inr (by simp))) hzA)) (fun _ _ _ h => h)) <|
      sq rfl (q_move rfl) <|
      sq rfl (q_bf (q_net ty4 rfl rfl) (by rw [hin]; simp)) <|
      sq_end) ?_
    clear hF hS; intro a w hF hS
    refine hK25 _ _ ?_
    clear hK25
    refine wp_if hF rfl (fun h => absurd h (by simp)) (fun _ => ?_)
    refine wp_skip ?_
    refine hK20 _ _ ?_
    clear hK20
    refine reg hF hS (sq rfl (q_move rfl) <|
      sq rfl (q_addi rfl rfl (by omega)) <|
      sq rfl (q_assign rfl) <|
      sq_end) ?_
    clear hF hS; intro a w hF hS
    refine ⟨(i + 1), ?_, ?_, hF.sub ⟨rfl, (by rw [show (i + 1).toNat = i.toNat + 1 by omega, Gu.all_take (by omega)]; rfl), (by rw [show (i + 1).toNat = i.toNat + 1 by omega, Gu.filter_take (by omega)]; first | (rw [if_pos hc4]; rfl) | (rw [if_neg (fun h => by rw [hc4] at h; cases h), Int.add_zero]; rfl)), rfl, rfl, rfl, rfl, trivial⟩, ?_⟩
    ·(try dsimp only); omega
    ·(try dsimp only); omega
    ·exact hS
   ·refine wp_skip ?_
    refine hK23 _ _ ?_
    clear hK23
    refine wp_seq_k ?_; intro K26 hK26
    refine reg hF hS (sq rfl (q_move rfl) <|
      sq rfl (q_move rfl) <|
      sq rfl (q_move rfl) <|
      sq rfl (q_idx_sl ty22 ty3 hzG rfl rfl (by omega)) <|
      sq rfl (q_ld_I ty3 hzG (.inr (by simp)) rfl rfl (by omega)) <|
      sq rfl (q_call fn31 rfl (fun w hS => inl_ct _ _ _ w (Sl.mono (hS.le (.inr (by simp))) hzA)) (fun _ _ _ h => h)) <|
      sq rfl (q_move rfl) <|
      sq rfl (q_bf (q_net ty4 rfl rfl) (by rw [hin]; simp)) <|
      sq_end) ?_
    clear hF hS; intro a w hF hS
    refine hK26 _ _ ?_
    clear hK26
    refine wp_if hF rfl (fun h => absurd h (by simp)) (fun _ => ?_)
    refine wp_skip ?_
    refine hK20 _ _ ?_
    clear hK20
    refine reg hF hS (sq rfl (q_move rfl) <|
      sq rfl (q_addi rfl rfl (by omega)) <|
      sq rfl (q_assign rfl) <|
      sq_end) ?_
    clear hF hS; intro a w hF hS
    refine ⟨(i + 1), ?_, ?_, hF.sub ⟨rfl, (by rw [show (i + 1).toNat = i.toNat + 1 by omega, Gu.all_take (by omega)]; rfl), (by rw [show (i + 1).toNat = i.toNat + 1 by omega, Gu.filter_take (by omega)]; first | (rw [if_pos hc4]; rfl) | (rw [if_neg (fun h => by rw [hc4] at h; cases h), Int.add_zero]; rfl)), rfl, rfl, rfl, rfl, trivial⟩, ?_⟩
    ·(try dsimp only); omega
    ·(try dsimp only); omega
    ·exact hS
  ·obtain rfl : i = G.length := by omega
   rw [Int.toNat_natCast, List.take_length] at hF hfl
   refine wp_exit ?_
   refine hK16 _ _ ?_
   clear hK16
   refine wp_seq_k ?_; intro K27 hK27
   refine wp_seq_k ?_; intro K28 hK28
   refine reg hF hS (sq rfl (q_move rfl) <|
     sq_end) ?_
   clear hF hS; intro a w hF hS
   refine hK28 _ _ ?_
   clear hK28
   refine wp_if hF rfl (fun hc7 => ?_) (fun hc7 => ?_)
   ·refine reg hF hS (sq rfl (q_move rfl) <|
      sq rfl (q_addi rfl rfl (by omega)) <|
      sq rfl (q_assign rfl) <|
      sq_end) ?_
    clear hF hS; intro a w hF hS
    refine hK27 _ _ ?_
    clear hK27
    refine wp_seq_k ?_; intro K29 hK29
    refine reg hF hS (sq rfl (q_move rfl) <|
      sq rfl (q_fieldAddr ty29 rfl rfl (s' := 0) kQ) <|
      sq rfl (q_ld_blk1 ty22 0 rfl rfl rfl rfl) <|
      sq rfl (q_move rfl) <|
      sq rfl (q_idx_sl ty22 ty3 hsF rfl rfl (by omega)) <|
      sq rfl (q_ld_I ty3 hsF (.inr (by simp)) rfl rfl (by omega)) <|
      sq rfl (q_call fn31 rfl (fun w hS => inl_ct _ _ _ w (Sl.mono (hS.le (.inr (by simp))) hzA)) (fun _ _ _ h => h)) <|
      sq rfl (q_move rfl) <|
      sq rfl (q_bt (q_eqt ty4 rfl rfl) (by rw [hnew]; simp)) <|
      sq rfl (q_move rfl) <|
      sq_go 128 rfl rfl rfl (q_move rfl) <|
      sq_go 128 rfl rfl rfl (q_len_sl ty22 hzA rfl) <|
      sq_go 128 rfl rfl rfl (q_move rfl) <|
      sq_go 128 rfl rfl rfl (q_dt (q_eqi rfl rfl) (by rw [hlen]; first | (rw [if_pos hc7]) | (rw [if_neg (fun h => by rw [hc7] at h; cases h), Int.add_zero]))) <|
      sq rfl (q_pick_t rfl rfl) <|
      sq rfl (q_move rfl) <|
      sq_go 134 rfl rfl rfl (q_call fn19 rfl (fun w hS => lives_ct w ) (fun _ _ _ h => h)) <|
      sq rfl (q_pick_t rfl rfl) <|
      sq rfl (q_assign rfl) <|
      sq_end) ?_
    clear hF hS; intro a w hF hS
    refine hK29 _ _ ?_
    clear hK29
    refine wp_ret ?_
    exact fn_ret (rs := [.tmp 6]) rfl hF hS (vs := [_]) ⟨rfl, trivial⟩ zQ zQ (rfl)
   ·refine wp_skip ?_
    refine hK27 _ _ ?_
    clear hK27
    refine wp_seq_k ?_; intro K30 hK30
    refine reg hF hS (sq rfl (q_move rfl) <|
      sq rfl (q_fieldAddr ty29 rfl rfl (s' := 0) kQ) <|
      sq rfl (q_ld_blk1 ty22 0 rfl rfl rfl rfl) <|
      sq rfl (q_move rfl) <|
      sq rfl (q_idx_sl ty22 ty3 hsF rfl rfl (by omega)) <|
      sq rfl (q_ld_I ty3 hsF (.inr (by simp)) rfl rfl (by omega)) <|
      sq rfl (q_call fn31 rfl (fun w hS => inl_ct _ _ _ w (Sl.mono (hS.le (.inr (by simp))) hzA)) (fun _ _ _ h => h)) <|
      sq rfl (q_move rfl) <|
      sq rfl (q_bt (q_eqt ty4 rfl rfl) (by rw [hnew]; simp)) <|
      sq rfl (q_move rfl) <|
      sq_go 128 rfl rfl rfl (q_move rfl) <|
      sq_go 128 rfl rfl rfl (q_len_sl ty22 hzA rfl) <|
      sq_go 128 rfl rfl rfl (q_move rfl) <|
      sq_go 128 rfl rfl rfl (q_dt (q_eqi rfl rfl) (by rw [hlen]; first | (rw [if_pos hc7]) | (rw [if_neg (fun h => by rw [hc7] at h; cases h), Int.add_zero]))) <|
      sq rfl (q_pick_t rfl rfl) <|
      sq rfl (q_move rfl) <|
      sq_go 134 rfl rfl rfl (q_call fn19 rfl (fun w hS => lives_ct w ) (fun _ _ _ h => h)) <|
      sq rfl (q_pick_t rfl rfl) <|
      sq rfl (q_assign rfl) <|
      sq_end) ?_
    clear hF hS; intro a w hF hS
    refine hK30 _ _ ?_
    clear hK30
    refine wp_ret ?_
    exact fn_ret (rs := [.tmp 6]) rfl hF hS (vs := [_]) ⟨rfl, trivial⟩ zQ zQ (rfl)
end Go.Proofs.Ytcbjemjohacbpaa
