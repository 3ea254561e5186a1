/- A text of a proof over this seat: walks over the program's functions and the plain laws that they need. -/
import Derived.Test.YtcbjemjohacbpaaGg37
import Derived.Test.YtcbjemjohacbpaaGuA
import Derived.Test.YtcbjemjohacbpaaFwC
import Derived.Test.YtcbjemjohacbpaaFwB
set_option linter.all false
namespace Go.Proofs.Ytcbjemjohacbpaa
open Go.Fw
theorem fn19 : FnOk Try.prog 19 := ⟨_, Try.func19, rfl, by kernel_rfl⟩
theorem fn28 : FnOk Try.prog 28 := ⟨_, Try.func28, rfl, by kernel_rfl⟩
theorem fn35 : FnOk Try.prog 35 := ⟨_, Try.func35, rfl, by kernel_rfl⟩
theorem fn36 : FnOk Try.prog 36 := ⟨_, Try.func36, rfl, by kernel_rfl⟩
theorem fn37 : FnOk Try.prog 37 := ⟨_, Try.func37, rfl, by kernel_rfl⟩
theorem fn40 : FnOk Try.prog 40 := ⟨_, Try.func40, rfl, by kernel_rfl⟩
theorem fn41 : FnOk Try.prog 41 := ⟨_, Try.func41, rfl, by kernel_rfl⟩
theorem fn42 : FnOk Try.prog 42 := ⟨_, Try.func42, rfl, by kernel_rfl⟩
theorem fn43 : FnOk Try.prog 43 := ⟨_, Try.func43, rfl, by kernel_rfl⟩
theorem fn44 : FnOk Try.prog 44 := ⟨_, Try.func44, rfl, by kernel_rfl⟩

set_option maxRecDepth 4000 in
set_option maxHeartbeats 2000000 in
theorem law30_ct (v : Value) (l : List Int) (v2 : Value) (m : List Int) (b : Int) (hb9 : -9223372036854775808 ≤ b ∧ b ≤ 9223372036854775807) (t : Int) (ht9 : -9223372036854775808 ≤ t ∧ t ≤ 9223372036854775807) (w : World) (hl : Sl encI (ph w) v l) (hm : Sl encI (ph w) v2 m) : Ct Try.prog 10 [v, v2, vi b, vi t] w (fun r _ _ => r = .bool true) := by
 refine fn_enter Try.func10 rfl Try.ntmps10 (Nat.le_of_ble_eq_true rfl) fun a hF hS => ?_
 refine wp_seq_k ?_; intro K1 hK1
 refine reg hF hS (sq rfl (q_assign rfl) <|
   sq_end) ?_
 clear hF hS; intro a w hF hS
 refine hK1 _ _ ?_
 clear hK1
 refine wp_seq_k ?_; intro K2 hK2
 refine regl ?_
 refine wpl_sq hF hS (sq rfl (q_move rfl) <|
   sq_end) ?_
 clear hF hS; intro a w hF hS
 refine wpl_ef hF hS rfl (ef_call fn28 rfl (fun w hS => family_ct _ _ w (Sl.mono (hS.le zin0) hl))) ?_
 clear hF hS; rintro _ _ _ a w ⟨_, _, rfl, rfl, ⟨nvF, svF, bvF, ns, xs, xb, zF, rfl, hnF, hsF, hbF, lnF, lsF, lbF, leqF, rfl, rfl⟩⟩ hF hS
 replace hS : St _ [_] [] _ := hS
 refine wpl_ef hF hS rfl (ef_allocA ty29) ?_
 clear hF hS; rintro _ _ _ a w ⟨b2, rfl, rfl, rfl⟩ hF hS
 refine wpl_ef hF hS rfl (ef_storeW ty29 0 rfl rfl rfl rfl bQ (oc_cons (sl_one' hnF) (oc_cons (sl_one' hsF) (oc_cons (sl_one' hbF) oc_nil))) bQ) ?_
 clear hF hS; rintro _ _ _ a w ⟨rfl, rfl, rfl⟩ hF hS
 replace hS : St _ [_] [_] _ := hS
 refine wpList_nil ?_
 refine hK2 _ _ ?_
 clear hK2
 refine wp_seq_k ?_; intro K3 hK3
 refine regl ?_
 refine wpl_sq hF hS (sq rfl (q_ld_blkW ty29 0 rfl rfl bQ rfl) <|
   sq rfl (q_move rfl) <|
   sq_end) ?_
 clear hF hS; intro a w hF hS
 refine wpl_ef hF hS rfl (ef_call fn35 rfl (fun w hS => keys_ct _ _ _ _ _ _ _ (by first | with_reducible assumption | omega) w (sl_one' hnF) (Sl.mono (hS.le (.inr (by simp))) hsF) (Sl.mono (hS.le (.inr (by simp))) hbF) (Sl.mono (hS.le zin0) hm))) ?_
 clear hF hS; rintro v3 _ _ a w ⟨_, _, rfl, rfl, ⟨zK, hzK, rfl, rfl⟩⟩ hF hS
 replace hS : St _ [_, _] [_] _ := hS
 refine wpl_sq hF hS (sq rfl (q_assign rfl) <|
   sq_end) ?_
 clear hF hS; intro a w hF hS
 refine wpList_nil ?_
 obtain ⟨heq, hfam⟩ := leqF rfl
 have hr9 := Gu.fam_r hfam
 obtain ⟨ks, hks⟩ : ∃ ks, ks = Gu.kys m xs.length := ⟨_, rfl⟩
 rw [← hks] at hzK
 have hkl : ks.length = xs.length := by rw [hks, Gu.kys_len]
 refine hK3 _ _ ?_
 clear hK3
 refine wp_seq_k ?_; intro K4 hK4
 refine regl ?_
 refine wpl_sq hF hS (sq rfl (q_ld_blkW ty29 0 rfl rfl bQ rfl) <|
   sq rfl (q_move rfl) <|
   sq rfl (q_move rfl) <|
   sq_end) ?_
 clear hF hS; intro a w hF hS
 refine wpl_ef hF hS rfl (ef_call fn36 rfl (fun w hS => marks_ct _ _ _ _ _ _ _ _ (by first | with_reducible assumption | omega) (by omega) (by omega) w (sl_one' hnF) (Sl.mono (hS.le (.inr (by simp))) hsF) (Sl.mono (hS.le (.inr (by simp))) hbF) (Sl.mono (hS.le (.inr (by simp))) hzK))) ?_
 clear hF hS; rintro v4 _ _ a w ⟨_, _, rfl, rfl, ⟨zE, hzE, rfl, rfl⟩⟩ hF hS
 replace hS : St _ [_, _, _] [_] _ := hS
 refine wpl_sq hF hS (sq rfl (q_assign rfl) <|
   sq_end) ?_
 clear hF hS; intro a w hF hS
 refine wpList_nil ?_
 obtain ⟨M, hM⟩ : ∃ M, M = Gu.mrk xb ks b xs.length := ⟨_, rfl⟩
 rw [← hM] at hzE
 have hML : M.length = xs.length := by rw [hM, Gu.mrk_len]
 have hfit : Gu.fitsB xs.length xb M = true := hM ▸ Gu.mrk_fit xs xb ks b heq
 have hd9 : ∀ i, i < ks.length → Gu.dif xb ks M i = false := fun i hi => by rw [hM]; exact Gu.dif_mrk xb ks b (by omega)
 obtain ⟨G, hG⟩ : ∃ G, G = Gu.gl xs xb M := ⟨_, rfl⟩
 obtain ⟨C, hC⟩ : ∃ C, C = Gu.cls xb ks := ⟨_, rfl⟩
 have hpv : Gu.pv xs xb ks M = (G, C, M, 0) := by rw [hG, hC]; exact Gu.pv_4 hfit (by omega) hd9
 have hCl : C.length = xs.length := by rw [hC, Gu.cls_len, hkl]
 have hGl : G.length ≤ 32 := by have := Gu.gl_len xs xb M; rw [← hG] at this; omega
 have hGm : G = Gu.minl xs M := hG.trans (Gu.gl_fit hfit)
 refine hK4 _ _ ?_
 clear hK4
 refine wp_seq_k ?_; intro K5 hK5
 refine regl ?_
 refine wpl_sq hF hS (sq rfl (q_ld_blkW ty29 0 rfl rfl bQ rfl) <|
   sq rfl (q_call fn14 rfl (fun w hS => own_ct _ _ _ _ _ w (sl_one' hnF) (Sl.mono (hS.le (.inr (by simp))) hsF) (Sl.mono (hS.le (.inr (by simp))) hbF)) (fun _ _ _ h => h)) <|
   sq rfl (q_move rfl) <|
   sq rfl (q_move rfl) <|
   sq_end) ?_
 clear hF hS; intro a w hF hS
 refine wpl_ef hF hS rfl (ef_call fn37 rfl (fun w hS => prove_ct _ _ _ _ _ _ _ _ _ (by first | with_reducible assumption | omega) w (sl_one' hnF) (Sl.mono (hS.le (.inr (by simp))) hsF) (Sl.mono (hS.le (.inr (by simp))) hbF) (Sl.mono (hS.le (.inr (by simp))) hzK) (Sl.mono (hS.le (.inr (by simp))) hzE))) ?_
 clear hF hS; rintro _ _ _ a w ⟨_, _, rfl, rfl, ⟨sP, fP, bP, zP, rfl, hsP, hfP, hbP, rfl, rfl⟩⟩ hF hS
 replace hS : St _ [_, _, _, _] [_] _ := hS
 refine wpl_sq hF hS (sq rfl (q_move rfl) <|
   sq rfl (q_extract rfl rfl) <|
   sq rfl (q_extract rfl rfl) <|
   sq_end) ?_
 clear hF hS; intro a w hF hS
 refine wpl_ef hF hS rfl (ef_allocA ty61) ?_
 clear hF hS; rintro _ _ _ a w ⟨b6, rfl, rfl, rfl⟩ hF hS
 refine wpl_ef hF hS rfl (ef_storeW ty61 0 rfl rfl rfl rfl bQ (oc_cons (sl_one' hsP) (oc_cons (sl_one' hfP) (oc_cons (sl_one' hbP) oc_nil))) bQ) ?_
 clear hF hS; rintro _ _ _ a w ⟨rfl, rfl, rfl⟩ hF hS
 replace hS : St _ [_, _, _, _] [_, _] _ := hS
 refine wpl_sq hF hS (sq rfl (q_assign rfl) <|
   sq_end) ?_
 clear hF hS; intro a w hF hS
 refine wpList_nil ?_
 rw [hpv] at hsP hfP hbP hF
 dsimp only at hsP hfP hbP hF
 refine hK5 _ _ ?_
 clear hK5
 refine wp_seq_k ?_; intro K6 hK6
 refine wp_seq_k ?_; intro K7 hK7
 refine reg hF hS (sq rfl (q_move rfl) <|
   sq rfl (q_nf (q_nei rfl rfl) (rfl)) <|
   sq rfl (q_move rfl) <|
   sq_go 41 rfl rfl rfl (q_fieldAddr ty61 rfl rfl (s' := 0) kQ) <|
   sq_go 41 rfl rfl rfl (q_ld_blk1 ty22 0 rfl rfl rfl rfl) <|
   sq_go 41 rfl rfl rfl (q_len_sl ty22 hfP rfl) <|
   sq_go 41 rfl rfl rfl (q_fieldAddr ty29 rfl rfl (s' := 0) kQ) <|
   sq_go 41 rfl rfl rfl (q_ld_blk1 ty22 1 rfl rfl rfl rfl) <|
   sq_go 41 rfl rfl rfl (q_len_sl ty22 hsF rfl) <|
   sq_go 41 rfl rfl rfl (q_nf (q_nei rfl rfl) (by omega)) <|
   sq rfl (q_pick_f rfl rfl) <|
   sq rfl (q_move rfl) <|
   sq_go 50 rfl rfl rfl (q_fieldAddr ty61 rfl rfl (s' := 0) kQ) <|
   sq_go 50 rfl rfl rfl (q_ld_blk1 ty23 0 rfl rfl rfl rfl) <|
   sq_go 50 rfl rfl rfl (q_len_sl ty23 hbP rfl) <|
   sq_go 50 rfl rfl rfl (q_fieldAddr ty29 rfl rfl (s' := 0) kQ) <|
   sq_go 50 rfl rfl rfl (q_ld_blk1 ty22 1 rfl rfl rfl rfl) <|
   sq_go 50 rfl rfl rfl (q_len_sl ty22 hsF rfl) <|
   sq_go 50 rfl rfl rfl (q_nf (q_nei rfl rfl) (by omega)) <|
   sq rfl (q_pick_f rfl rfl) <|
   sq_end) ?_
 clear hF hS; intro a w hF hS
 refine hK7 _ _ ?_
 clear hK7
 refine wp_if hF rfl (fun h => absurd h (by simp)) (fun _ => ?_)
 refine wp_skip ?_
 refine hK6 _ _ ?_
 clear hK6
 refine wp_seq_k ?_; intro K8 hK8
 refine regl ?_
 refine wpl_sq hF hS (sq rfl (q_fieldAddr ty61 rfl rfl (s' := 0) kQ) <|
   sq rfl (q_ld_blk1 ty22 0 rfl rfl rfl rfl) <|
   sq rfl (q_fieldAddr ty61 rfl rfl (s' := 0) kQ) <|
   sq rfl (q_ld_blk1 ty23 0 rfl rfl rfl rfl) <|
   sq_end) ?_
 clear hF hS; intro a w hF hS
 refine wpl_ef hF hS rfl (ef_call fn42 rfl (fun w hS => known_ct _ _ _ _ (by first | with_reducible assumption | omega) (by omega) w (Sl.mono (hS.le (.inr (by simp))) hfP) (Sl.mono (hS.le (.inr (by simp))) hbP))) ?_
 clear hF hS; rintro v7 _ _ a w ⟨_, _, rfl, rfl, ⟨zN, hzN, rfl, rfl⟩⟩ hF hS
 replace hS : St _ [_, _, _, _, _] [_, _] _ := hS
 refine wpl_sq hF hS (sq rfl (q_assign rfl) <|
   sq_end) ?_
 clear hF hS; intro a w hF hS
 refine wpList_nil ?_
 obtain ⟨K, hK⟩ : ∃ K, K = Gu.kn C M := ⟨_, rfl⟩
 rw [← hK] at hzN
 have hKl : K.length = xs.length := by rw [hK, Gu.kn_len, hCl]
 have hck : Gu.chk xs xb ks K G C M = 0 := by rw [hK, hG, hC]; exact Gu.chk_ok hfit hkl hd9
 have hcS : ∀ S, ¬ G = S → Gu.chk xs xb ks K S C M = 17 := fun S h => by rw [hG] at h; rw [hK, hC]; exact Gu.chk_sets hfit hkl h
 refine hK8 _ _ ?_
 clear hK8
 refine wp_seq_k ?_; intro K9 hK9
 refine wp_seq_k ?_; intro K10 hK10
 refine regd mixed kQ hF hS (sq rfl (q_ld_blkW ty29 1 rfl rfl bQ rfl) <|
   sq rfl (q_call fn14 rfl (fun w hS => own_ct _ _ _ _ _ w (sl_one' hnF) (Sl.mono (hS.le (.inr (by simp))) hsF) (Sl.mono (hS.le (.inr (by simp))) hbF)) (fun _ _ _ h => h)) <|
   sq rfl (q_move rfl) <|
   sq rfl (q_move rfl) <|
   sq rfl (q_ld_blkW ty61 0 rfl rfl bQ rfl) <|
   sq rfl (q_call fn43 rfl (fun w hS => check_ct _ _ _ _ _ _ _ _ _ _ _ _ _ _ _ (by omega) w (sl_one' hnF) (Sl.mono (hS.le (.inr (by simp))) hsF) (Sl.mono (hS.le (.inr (by simp))) hbF) (Sl.mono (hS.le (.inr (by simp))) hzK) (Sl.mono (hS.le (.inr (by simp))) hzN) (Sl.mono (hS.le (.inr (by simp))) hsP) (Sl.mono (hS.le (.inr (by simp))) hfP) (Sl.mono (hS.le (.inr (by simp))) hbP)) (fun _ _ _ h => h)) <|
   sq rfl (q_nf (q_nei rfl rfl) (hck)) <|
   sq_end) ?_
 clear hF hS; intro a w hF hS
 refine hK10 _ _ ?_
 clear hK10
 refine wp_if hF rfl (fun h => absurd h (by simp)) (fun _ => ?_)
 refine wp_skip ?_
 refine hK9 _ _ ?_
 clear hK9
 refine wp_seq_k ?_; intro K11 hK11
 refine reg hF hS (sq rfl (q_move rfl) <|
   sq rfl (q_fieldAddr ty29 rfl rfl (s' := 0) kQ) <|
   sq rfl (q_ld_blk1 ty22 1 rfl rfl rfl rfl) <|
   sq rfl (q_len_sl ty22 hsF rfl) <|
   sq rfl (q_max rfl rfl) <|
   sq rfl (q_call fn25 rfl (fun w hS => arnd_ct _ _ (by omega) (by omega) w ) (fun _ _ _ h => h)) <|
   sq rfl (q_assign rfl) <|
   sq_end) ?_
 clear hF hS; intro a w hF hS
 have har := Gu.arnd_range (n := t) (m := max (xs.length : Int) 1) (by omega)
 obtain ⟨k, hk9⟩ : ∃ k, k = Gu.arnd t (max (xs.length : Int) 1) := ⟨_, rfl⟩
 rw [← hk9] at hF har
 refine hK11 _ _ ?_
 clear hK11
 obtain ⟨hs0, hhs0, hS⟩ : ∃ h, h = _ ∧ St _ _ h _ := ⟨_, rfl, hS⟩
 refine wp_cutx (γ := Unit) (fun (_ : Unit) => []) [(3, _), (9, _), (10, _), (12, _), (14, _)] (fun (_ : Unit) => hs0) (fun (_ : Unit) => True) (hF.sub ⟨rfl, rfl, rfl, rfl, rfl, trivial⟩) hS ?_ ?_
 ·subst hhs0
  refine wp_seq_k ?_; intro K12 hK12
  refine reg hF hS (sq rfl (q_move rfl) <|
    sq rfl (q_fieldAddr ty61 rfl rfl (s' := 0) kQ) <|
    sq rfl (q_ld_blk1 ty23 0 rfl rfl rfl rfl) <|
    sq rfl (q_len_sl ty23 hbP rfl) <|
    sq rfl (q_lti rfl rfl) <|
    sq_end) ?_
  clear hF hS; intro a w hF hS
  refine hK12 _ _ ?_
  clear hK12
  refine wp_ifd hF rfl (fun hc3 => ?_) (fun hc3 => ?_)
  ·refine wp_seq_k ?_; intro K13 hK13
   refine regl ?_
   refine wpl_sq hF hS (sq rfl (q_ld_blkW ty61 0 rfl rfl bQ rfl) <|
     sq rfl (q_call fn40 rfl (fun w hS => model_ct _ _ _ _ _ _ w (Sl.mono (hS.le (.inr (by simp))) hsP) (Sl.mono (hS.le (.inr (by simp))) hfP) (Sl.mono (hS.le (.inr (by simp))) hbP)) (fun _ _ _ h => h)) <|
     sq rfl (q_move rfl) <|
     sq_end) ?_
   clear hF hS; intro a w hF hS
   refine wpl_ef hF hS rfl (ef_call fn41 rfl (fun w hS => bent_ct _ _ _ _ _ _ _ _ (by omega) (by omega) (by omega) w (Sl.mono (hS.le (.inr (by simp))) hsP) (Sl.mono (hS.le (.inr (by simp))) hfP) (Sl.mono (hS.le (.inr (by simp))) hbP))) ?_
   clear hF hS; rintro _ _ _ a w ⟨_, _, rfl, rfl, ⟨sV, fV, bV, zV, rfl, hsV, hfV, hbV, rfl, rfl⟩⟩ hF hS
   replace hS : St _ [_, _, _, _, _, _] [_, _] _ := hS
   refine wpl_ef hF hS rfl (ef_allocA ty67) ?_
   clear hF hS; rintro _ _ _ a w ⟨b9, rfl, rfl, rfl⟩ hF hS
   refine wpl_ef hF hS rfl (ef_storeW ty67 0 rfl rfl rfl rfl bQ (oc_cons (sl_one' hsV) (oc_cons (sl_one' hfV) (oc_cons (sl_one' hbV) oc_nil))) bQ) ?_
   clear hF hS; rintro _ _ _ a w ⟨rfl, rfl, rfl⟩ hF hS
   replace hS : St _ [_, _, _, _, _, _] [_, _, _] _ := hS
   refine wpList_nil ?_
   rw [Gu.bS_o (by decide) (by decide)] at hsV
   rw [Gu.bF_o (by decide) (by decide)] at hfV
   rw [Gu.bent_flip har.1 (by omega)] at hbV
   have hfl : Gu.chk xs xb ks K G C (M.set k.toNat (!M.getD k.toNat false)) = 17 := by rw [hK, hG, hC]; exact Gu.chk_flip hfit hkl hd9 (by omega)
   have hun : Gu.chk xs xb ks (K.set k.toNat 0) G C M = if 0 < K.getD k.toNat 0 then 17 else 0 := by rw [hK, hG, hC]; exact Gu.chk_unk hfit hkl hd9 (by omega)
   refine hK13 _ _ ?_
   clear hK13
   refine wp_seq_k ?_; intro K14 hK14
   refine wp_seq_k ?_; intro K15 hK15
   refine regd mixed kQ hF hS (sq rfl (q_ld_blkW ty29 2 rfl rfl bQ rfl) <|
     sq rfl (q_call fn14 rfl (fun w hS => own_ct _ _ _ _ _ w (sl_one' hnF) (Sl.mono (hS.le (.inr (by simp))) hsF) (Sl.mono (hS.le (.inr (by simp))) hbF)) (fun _ _ _ h => h)) <|
     sq rfl (q_move rfl) <|
     sq rfl (q_move rfl) <|
     sq rfl (q_ld_blkW ty67 0 rfl rfl bQ rfl) <|
     sq rfl (q_call fn44 rfl (fun w hS => given_ct _ _ _ _ _ _ w (Sl.mono (hS.le (.inr (by simp))) hsV) (Sl.mono (hS.le (.inr (by simp))) hfV) (Sl.mono (hS.le (.inr (by simp))) hbV)) (fun _ _ _ h => h)) <|
     sq rfl (q_call fn43 rfl (fun w hS => check_ct _ _ _ _ _ _ _ _ _ _ _ _ _ _ _ (by omega) w (sl_one' hnF) (Sl.mono (hS.le (.inr (by simp))) hsF) (Sl.mono (hS.le (.inr (by simp))) hbF) (Sl.mono (hS.le (.inr (by simp))) hzK) (Sl.mono (hS.le (.inr (by simp))) hzN) (Sl.mono (hS.le (.inr (by simp))) hsV) (Sl.mono (hS.le (.inr (by simp))) hfV) (Sl.mono (hS.le (.inr (by simp))) hbV)) (fun _ _ _ h => h)) <|
     sq rfl (q_nf (q_nei rfl rfl) (hfl)) <|
     sq_end) ?_
   clear hF hS; intro a w hF hS
   refine hK15 _ _ ?_
   clear hK15
   refine wp_if hF rfl (fun h => absurd h (by simp)) (fun _ => ?_)
   refine wp_skip ?_
   refine hK14 _ _ ?_
   clear hK14
   refine wp_seq_k ?_; intro K16 hK16
   refine regl ?_
   refine wpl_ef hF hS rfl (ef_bslice0 ty22 ty3) ?_
   clear hF hS; rintro v10 _ _ a w ⟨rfl, rfl⟩ hF hS
   replace hS : St _ [_, _, _, _, _, _] [_, _, _, _] _ := hS
   refine wpl_sq hF hS (sq rfl (q_move rfl) <|
     sq_end) ?_
   clear hF hS; intro a w hF hS
   refine wpl_ef hF hS rfl (ef_append ty22 ty3 0 rfl rfl rfl (src_slV ty22 hzN (.inr (by simp))) bQ rfl (by decide)) ?_
   clear hF hS; rintro v12 _ _ a w ⟨rfl, rfl⟩ hF hS
   replace hS : St _ [_, _, _, _, _, _] [_, _, _, _] _ := hS
   refine wpl_sq hF hS (sq rfl (q_assign rfl) <|
     sq_end) ?_
   clear hF hS; intro a w hF hS
   refine wpList_nil ?_
   refine hK16 _ _ ?_
   clear hK16
   refine wp_seq_k ?_; intro K17 hK17
   refine regl ?_
   refine wpl_sq hF hS (sq rfl (q_move rfl) <|
     sq rfl (q_move rfl) <|
     sq rfl (q_idx_row ty22 ty3 0 rfl rfl rfl (by omega)) <|
     sq_end) ?_
   clear hF hS; intro a w hF hS
   refine wpl_ef hF hS rfl (ef_st_row ty3 0 rfl rfl rfl (by omega) rfl) ?_
   clear hF hS; rintro _ _ _ a w ⟨rfl, rfl, rfl⟩ hF hS
   replace hS : St _ [_, _, _, _, _, _] [_, _, _, _] _ := hS
   refine wpList_nil ?_
   replace hS := hS.rowEq (m' := (K.set k.toNat 0).length) (cs' := (K.set k.toNat 0).map vi) (by simp) (by simp [List.map_set])
   obtain ⟨z13, hz14, hS⟩ := St.freezeV (h0 := fun _ => rfl) (f := vi) (p := fun x => -9223372036854775808 ≤ x ∧ x ≤ 9223372036854775807) (xs := (K.set k.toNat 0)) hS rfl (by rw [List.length_set]; omega) (Gu.rg_set (sl_rng hzN) (by omega))
   replace hS : St _ [_, _, _, _, _, _, _] [_, _, _] _ := hS
   refine hK17 _ _ ?_
   clear hK17
   refine wp_seq_k ?_; intro K18 hK18
   refine reg hF hS (sq rfl (q_assign rfl) <|
     sq_end) ?_
   clear hF hS; intro a w hF hS
   refine hK18 _ _ ?_
   clear hK18
   obtain ⟨hs0, hhs0, hS⟩ : ∃ h, h = _ ∧ St _ _ h _ := ⟨_, rfl, hS⟩
   refine wp_cutx (γ := Int) (fun (wt : Int) => [(18, vi wt)]) [(3, _), (9, _), (10, _), (12, _), (14, _), (17, _)] (fun (wt : Int) => hs0) (fun (wt : Int) => wt = (if 0 < K.getD k.toNat 0 then 17 else 0)) (hF.sub ⟨rfl, rfl, rfl, rfl, rfl, rfl, trivial⟩) hS ?_ ?_
   ·subst hhs0
    refine wp_seq_k ?_; intro K19 hK19
    refine reg hF hS (sq rfl (q_move rfl) <|
      sq rfl (q_move rfl) <|
      sq rfl (q_idx_sl ty22 ty3 hzN rfl rfl (by omega)) <|
      sq rfl (q_ld_I ty3 hzN (.inr (by simp)) rfl rfl (by omega)) <|
      sq rfl (q_gti rfl rfl) <|
      sq_end) ?_
    clear hF hS; intro a w hF hS
    refine hK19 _ _ ?_
    clear hK19
    refine wp_ifd hF rfl (fun hc5 => ?_) (fun hc5 => ?_)
    ·refine reg hF hS (sq rfl (q_assign rfl) <|
       sq_end) ?_
     clear hF hS; intro a w hF hS
     refine ⟨(17), ?_, hF.sub ⟨rfl, rfl, rfl, rfl, rfl, rfl, rfl, trivial⟩, ?_⟩
     ·exact (if_pos hc5).symm
     ·exact hS
    ·refine wp_skip ?_
     refine ⟨(0), ?_, hF.sub ⟨rfl, rfl, rfl, rfl, rfl, rfl, rfl, trivial⟩, ?_⟩
     ·exact (if_neg hc5).symm
     ·exact hS
   clear hF hS; rintro wt a w hfact hF hS
   subst hhs0; (try dsimp only at hfact); (try dsimp only at hF); (try dsimp only at hS)
   have hwt := hfact
   replace hS : St _ [_, _, _, _, _, _, _] [_, _, _] _ := hS
   refine wp_seq_k ?_; intro K20 hK20
   refine regd mixed kQ hF hS (sq rfl (q_ld_blkW ty29 2 rfl rfl bQ rfl) <|
     sq rfl (q_call fn14 rfl (fun w hS => own_ct _ _ _ _ _ w (sl_one' hnF) (Sl.mono (hS.le (.inr (by simp))) hsF) (Sl.mono (hS.le (.inr (by simp))) hbF)) (fun _ _ _ h => h)) <|
     sq rfl (q_move rfl) <|
     sq rfl (q_move rfl) <|
     sq rfl (q_ld_blkW ty61 1 rfl rfl bQ rfl) <|
     sq rfl (q_call fn43 rfl (fun w hS => check_ct _ _ _ _ _ _ _ _ _ _ _ _ _ _ _ (by omega) w (sl_one' hnF) (Sl.mono (hS.le (.inr (by simp))) hsF) (Sl.mono (hS.le (.inr (by simp))) hbF) (Sl.mono (hS.le (.inr (by simp))) hzK) (Sl.mono (hS.le (.inr (by simp))) hz14) (Sl.mono (hS.le (.inr (by simp))) hsP) (Sl.mono (hS.le (.inr (by simp))) hfP) (Sl.mono (hS.le (.inr (by simp))) hbP)) (fun _ _ _ h => h)) <|
     sq rfl (q_move rfl) <|
     sq rfl (q_nf (q_nei rfl rfl) (hun.trans hwt.symm)) <|
     sq_end) ?_
   clear hF hS; intro a w hF hS
   refine hK20 _ _ ?_
   clear hK20
   refine wp_if hF rfl (fun h => absurd h (by simp)) (fun _ => ?_)
   refine wp_skip ?_
   replace hS := hS.perm (.swap _ _ _)
   replace hS := hS.perm (.cons _ (.swap _ _ _))
   replace hS := hS.keep (sQ.n.n) (zQ.k.k)
   refine ⟨(), ?_, hF.sub ⟨rfl, rfl, rfl, rfl, rfl, trivial⟩, ?_⟩
   ·trivial
   ·exact hS
  ·refine wp_skip ?_
   refine ⟨(), ?_, hF.sub ⟨rfl, rfl, rfl, rfl, rfl, trivial⟩, ?_⟩
   ·trivial
   ·exact hS
 clear hF hS; rintro _ a w hfact hF hS
 subst hhs0; (try dsimp only at hfact); (try dsimp only at hF); (try dsimp only at hS)
 obtain - := hfact
 replace hS : St _ [_, _, _, _, _] [_, _] _ := hS
 refine wp_seq_k ?_; intro K21 hK21
 refine regl ?_
 refine wpl_sq hF hS (sq rfl (q_ld_blkW ty61 0 rfl rfl bQ rfl) <|
   sq rfl (q_call fn40 rfl (fun w hS => model_ct _ _ _ _ _ _ w (Sl.mono (hS.le (.inr (by simp))) hsP) (Sl.mono (hS.le (.inr (by simp))) hfP) (Sl.mono (hS.le (.inr (by simp))) hbP)) (fun _ _ _ h => h)) <|
   sq rfl (q_move rfl) <|
   sq_end) ?_
 clear hF hS; intro a w hF hS
 refine wpl_ef hF hS rfl (ef_call fn41 rfl (fun w hS => bent_ct _ _ _ _ _ _ _ _ (by omega) (by omega) (by omega) w (Sl.mono (hS.le (.inr (by simp))) hsP) (Sl.mono (hS.le (.inr (by simp))) hfP) (Sl.mono (hS.le (.inr (by simp))) hbP))) ?_
 clear hF hS; rintro _ _ _ a w ⟨_, _, rfl, rfl, ⟨sL, fL, bL, zL, rfl, hsL, hfL, hbL, rfl, rfl⟩⟩ hF hS
 replace hS : St _ [_, _, _, _, _, _] [_, _] _ := hS
 refine wpl_ef hF hS rfl (ef_allocA ty67) ?_
 clear hF hS; rintro _ _ _ a w ⟨b16, rfl, rfl, rfl⟩ hF hS
 refine wpl_ef hF hS rfl (ef_storeW ty67 0 rfl rfl rfl rfl bQ (oc_cons (sl_one' hsL) (oc_cons (sl_one' hfL) (oc_cons (sl_one' hbL) oc_nil))) bQ) ?_
 clear hF hS; rintro _ _ _ a w ⟨rfl, rfl, rfl⟩ hF hS
 replace hS : St _ [_, _, _, _, _, _] [_, _, _] _ := hS
 refine wpList_nil ?_
 rw [Gu.bS_2 (by decide)] at hsL
 rw [Gu.bF_o (by decide) (by decide)] at hfL
 rw [Gu.bB_o (by decide) (by decide)] at hbL
 refine hK21 _ _ ?_
 clear hK21
 refine wp_seq_k ?_; intro K22 hK22
 refine regl ?_
 refine wpl_sq hF hS (sq rfl (q_ld_blkW ty61 1 rfl rfl bQ rfl) <|
   sq rfl (q_call fn40 rfl (fun w hS => model_ct _ _ _ _ _ _ w (Sl.mono (hS.le (.inr (by simp))) hsP) (Sl.mono (hS.le (.inr (by simp))) hfP) (Sl.mono (hS.le (.inr (by simp))) hbP)) (fun _ _ _ h => h)) <|
   sq rfl (q_move rfl) <|
   sq_end) ?_
 clear hF hS; intro a w hF hS
 refine wpl_ef hF hS rfl (ef_call fn41 rfl (fun w hS => bent_ct _ _ _ _ _ _ _ _ (by omega) (by omega) (by omega) w (Sl.mono (hS.le (.inr (by simp))) hsP) (Sl.mono (hS.le (.inr (by simp))) hfP) (Sl.mono (hS.le (.inr (by simp))) hbP))) ?_
 clear hF hS; rintro _ _ _ a w ⟨_, _, rfl, rfl, ⟨sR, fR, bR, zR, rfl, hsR, hfR, hbR, rfl, rfl⟩⟩ hF hS
 replace hS : St _ [_, _, _, _, _, _, _] [_, _, _] _ := hS
 refine wpl_ef hF hS rfl (ef_allocA ty67) ?_
 clear hF hS; rintro _ _ _ a w ⟨b18, rfl, rfl, rfl⟩ hF hS
 refine wpl_ef hF hS rfl (ef_storeW ty67 0 rfl rfl rfl rfl bQ (oc_cons (sl_one' hsR) (oc_cons (sl_one' hfR) (oc_cons (sl_one' hbR) oc_nil))) bQ) ?_
 clear hF hS; rintro _ _ _ a w ⟨rfl, rfl, rfl⟩ hF hS
 replace hS : St _ [_, _, _, _, _, _, _] [_, _, _, _] _ := hS
 refine wpList_nil ?_
 rw [Gu.bS_3 (by decide)] at hsR
 rw [Gu.bF_o (by decide) (by decide)] at hfR
 rw [Gu.bB_o (by decide) (by decide)] at hbR
 refine hK22 _ _ ?_
 clear hK22
 refine wp_seq_k ?_; intro K23 hK23
 refine wp_seq_k ?_; intro K24 hK24
 refine regq mixed kQ hS ?_
 refine wpq_seg hF (sq rfl (q_fieldAddr ty61 rfl rfl (s' := 0) kQ) <|
   sq rfl (q_ld_blk1 ty22 2 rfl rfl rfl rfl) <|
   sq rfl (q_len_sl ty22 hsP rfl) <|
   sq rfl (q_gti rfl rfl) <|
   sq rfl (q_move rfl) <|
   sq_end) ?_
 clear hF; intro a hF
 refine wpq_and 4 125 8 hF rfl rfl rfl rfl rfl (fun hg => have hg := (by first | exact of_decide_eq_true hg | exact hg); sq_go 125 rfl rfl rfl (q_ld_blkW ty29 3 rfl rfl bQ rfl) <|
   sq_go 125 rfl rfl rfl (q_call fn14 rfl (fun w hS => own_ct _ _ _ _ _ w (sl_one' hnF) (Sl.mono (hS.le (.inr (by simp))) hsF) (Sl.mono (hS.le (.inr (by simp))) hbF)) (fun _ _ _ h => h)) <|
   sq_go 125 rfl rfl rfl (q_move rfl) <|
   sq_go 125 rfl rfl rfl (q_move rfl) <|
   sq_go 125 rfl rfl rfl (q_ld_blkW ty67 1 rfl rfl bQ rfl) <|
   sq_go 125 rfl rfl rfl (q_call fn44 rfl (fun w hS => given_ct _ _ _ _ _ _ w (Sl.mono (hS.le (.inr (by simp))) hsL) (Sl.mono (hS.le (.inr (by simp))) hfL) (Sl.mono (hS.le (.inr (by simp))) hbL)) (fun _ _ _ h => h)) <|
   sq_go 125 rfl rfl rfl (q_call fn43 rfl (fun w hS => check_ct _ _ _ _ _ _ _ _ _ _ _ _ _ _ _ (by omega) w (sl_one' hnF) (Sl.mono (hS.le (.inr (by simp))) hsF) (Sl.mono (hS.le (.inr (by simp))) hbF) (Sl.mono (hS.le (.inr (by simp))) hzK) (Sl.mono (hS.le (.inr (by simp))) hzN) (Sl.mono (hS.le (.inr (by simp))) hsL) (Sl.mono (hS.le (.inr (by simp))) hfL) (Sl.mono (hS.le (.inr (by simp))) hbL)) (fun _ _ _ h => h)) <|
   sq_go 125 rfl rfl rfl (q_nei rfl rfl) <|
   sq_end) rfl rfl ?_
 clear hF; intro a hF
 refine wpq_seg hF (sq rfl (q_move rfl) <|
   sq_end) ?_
 clear hF; intro a hF
 refine wpq_or 14 135 8 hF rfl rfl rfl rfl rfl (fun hg => have hg := hg; sq_go 135 rfl rfl rfl (q_ld_blkW ty29 3 rfl rfl bQ rfl) <|
   sq_go 135 rfl rfl rfl (q_call fn14 rfl (fun w hS => own_ct _ _ _ _ _ w (sl_one' hnF) (Sl.mono (hS.le (.inr (by simp))) hsF) (Sl.mono (hS.le (.inr (by simp))) hbF)) (fun _ _ _ h => h)) <|
   sq_go 135 rfl rfl rfl (q_move rfl) <|
   sq_go 135 rfl rfl rfl (q_move rfl) <|
   sq_go 135 rfl rfl rfl (q_ld_blkW ty67 0 rfl rfl bQ rfl) <|
   sq_go 135 rfl rfl rfl (q_call fn44 rfl (fun w hS => given_ct _ _ _ _ _ _ w (Sl.mono (hS.le (.inr (by simp))) hsR) (Sl.mono (hS.le (.inr (by simp))) hfR) (Sl.mono (hS.le (.inr (by simp))) hbR)) (fun _ _ _ h => h)) <|
   sq_go 135 rfl rfl rfl (q_call fn43 rfl (fun w hS => check_ct _ _ _ _ _ _ _ _ _ _ _ _ _ _ _ (by omega) w (sl_one' hnF) (Sl.mono (hS.le (.inr (by simp))) hsF) (Sl.mono (hS.le (.inr (by simp))) hbF) (Sl.mono (hS.le (.inr (by simp))) hzK) (Sl.mono (hS.le (.inr (by simp))) hzN) (Sl.mono (hS.le (.inr (by simp))) hsR) (Sl.mono (hS.le (.inr (by simp))) hfR) (Sl.mono (hS.le (.inr (by simp))) hbR)) (fun _ _ _ h => h)) <|
   sq_go 135 rfl rfl rfl (q_nei rfl rfl) <|
   sq_end) rfl rfl ?_
 clear hF; intro a hF
 refine wpq_nil ?_
 clear hS; intro w hS
 refine hK24 _ _ ?_
 clear hK24
 refine wp_if hF rfl (fun hc7 => ?_) (fun hc7 => ?_)
 ·(try simp only [Bool.or_eq_true, Bool.and_eq_true, Bool.or_eq_false_iff, Bool.and_eq_false_iff, decide_eq_true_eq, decide_eq_false_iff_not, Bool.not_eq_true', Bool.not_eq_false'] at hc7)
  rcases hc7 with h | h
  ·exact absurd (hcS _ (Gu.tail_ne (by omega))) h.2
  ·exact absurd (hcS _ Gu.app_ne) h
 ·(try simp only [Bool.or_eq_true, Bool.and_eq_true, Bool.or_eq_false_iff, Bool.and_eq_false_iff, decide_eq_true_eq, decide_eq_false_iff_not, Bool.not_eq_true', Bool.not_eq_false'] at hc7)
  refine wp_skip ?_
  refine hK23 _ _ ?_
  clear hK23
  refine wp_seq_k ?_; intro K25 hK25
  refine wp_seq_k ?_; intro K26 hK26
  refine reg hF hS (sq rfl (q_assign rfl) <|
    sq_end) ?_
  clear hF hS; intro a w hF hS
  refine hK26 _ _ ?_
  clear hK26
  refine wp_block ?_
  obtain ⟨hs0, hhs0, hS⟩ : ∃ h, h = _ ∧ St _ _ h _ := ⟨_, rfl, hS⟩
  refine wp_loopx (γ := Int) (0) (fun (i : Int) => [(21, vi i)]) [(9, _), (12, _)] (fun (i : Int) => hs0) (fun (i : Int) => 0 ≤ i ∧ i ≤ G.length) (fun (i : Int) => (G.length - i).toNat) (hF.sub ⟨rfl, rfl, rfl, trivial⟩) (by subst hhs0; exact hS) (by exact ⟨Int.le_refl _, by omega⟩) ?_
  clear hF hS; rintro i a w hfact hF hS
  subst hhs0; (try dsimp only at hfact); (try dsimp only at hF); (try dsimp only at hS)
  obtain ⟨hi0, hi1⟩ := hfact
  replace hS : St _ [_, _, _, _, _, _, _] [_, _, _, _] _ := hS
  refine wp_seq_k ?_; intro K27 hK27
  refine wp_seq_k ?_; intro K28 hK28
  refine reg hF hS (sq rfl (q_move rfl) <|
    sq rfl (q_fieldAddr ty61 rfl rfl (s' := 0) kQ) <|
    sq rfl (q_ld_blk1 ty22 2 rfl rfl rfl rfl) <|
    sq rfl (q_len_sl ty22 hsP rfl) <|
    sq rfl (q_lti rfl rfl) <|
    sq_end) ?_
  clear hF hS; intro a w hF hS
  refine hK28 _ _ ?_
  clear hK28
  refine wp_ifd hF rfl (fun hc8 => ?_) (fun hc8 => ?_)
  ·have hix := (Gu.ixF_in (xs := xs) (y := G.getD i.toNat 0) (Gu.minl_mem (bs := M) _ (hGm ▸ getD_mem (by omega)))).1
   refine wp_skip ?_
   refine hK27 _ _ ?_
   clear hK27
   refine wp_seq_k ?_; intro K29 hK29
   refine wp_block ?_
   refine wp_seq_k ?_; intro K30 hK30
   refine regd mixed kQ hF hS (sq rfl (q_ld_blkW ty29 3 rfl rfl bQ rfl) <|
     sq rfl (q_call fn14 rfl (fun w hS => own_ct _ _ _ _ _ w (sl_one' hnF) (Sl.mono (hS.le (.inr (by simp))) hsF) (Sl.mono (hS.le (.inr (by simp))) hbF)) (fun _ _ _ h => h)) <|
     sq rfl (q_fieldAddr ty61 rfl rfl (s' := 0) kQ) <|
     sq rfl (q_ld_blk1 ty22 2 rfl rfl rfl rfl) <|
     sq rfl (q_move rfl) <|
     sq rfl (q_idx_sl ty22 ty3 hsP rfl rfl (by omega)) <|
     sq rfl (q_ld_I ty3 hsP (.inr (by simp)) rfl rfl (by omega)) <|
     sq rfl (q_call fn29 rfl (fun w hS => lix_ct _ _ _ _ _ _ w (sl_one' hnF) (Sl.mono (hS.le (.inr (by simp))) hsF) (Sl.mono (hS.le (.inr (by simp))) hbF)) (fun _ _ _ h => h)) <|
     sq rfl (q_df (q_lti rfl rfl) (by omega)) <|
     sq_end) ?_
   clear hF hS; intro a w hF hS
   refine hK30 _ _ ?_
   clear hK30
   refine wp_if hF rfl (fun h => absurd h (by simp)) (fun _ => ?_)
   refine wp_skip ?_
   refine hK29 _ _ ?_
   clear hK29
   refine reg hF hS (sq rfl (q_move rfl) <|
     sq rfl (q_addi rfl rfl (by omega)) <|
     sq rfl (q_assign rfl) <|
     sq_end) ?_
   clear hF hS; intro a w hF hS
   refine ⟨(i + 1), ?_, ?_, hF.sub ⟨rfl, rfl, rfl, trivial⟩, ?_⟩
   ·(try dsimp only); omega
   ·(try dsimp only); omega
   ·exact hS
  ·refine wp_exit ?_
   refine hK25 _ _ ?_
   clear hK25
   refine wp_seq_k ?_; intro K31 hK31
   refine reg hF hS (sq rfl (q_call fn19 rfl (fun w hS => lives_ct w ) (fun _ _ _ h => h)) <|
     sq rfl (q_assign rfl) <|
     sq_end) ?_
   clear hF hS; intro a w hF hS
   refine hK31 _ _ ?_
   clear hK31
   refine wp_ret ?_
   exact fn_ret (rs := [.tmp 8]) rfl hF hS (vs := [_]) ⟨rfl, trivial⟩ zQ zQ (rfl)
end Go.Proofs.Ytcbjemjohacbpaa
