/- A text of a proof over this seat: walks over the program's functions and the plain laws that they need. -/
import Derived.Test.YtcbjemjohacbpaaGg35
import Derived.Test.YtcbjemjohacbpaaGuA
import Derived.Test.YtcbjemjohacbpaaFwC
import Derived.Test.YtcbjemjohacbpaaFwB
set_option linter.all false
namespace Go.Proofs.Ytcbjemjohacbpaa
open Go.Fw
theorem fn73 : FnOk Try.prog 73 := ⟨_, Try.func73, rfl, by kernel_rfl⟩
theorem fn74 : FnOk Try.prog 74 := ⟨_, Try.func74, rfl, by kernel_rfl⟩

set_option maxRecDepth 4000 in
set_option maxHeartbeats 2000000 in
theorem check_ct (xN xS xB : Value) (xs : List Int) (xb : List Bool) (v : Value) (ks : List (List UInt8)) (v2 : Value) (K : List Int) (a b c : Value) (S F : List Int) (B : List Bool) (hl : xs.length < 1048576) (w : World) (hxn : xN.oneCell' = true) (hxs : Sl encI (ph w) xS xs) (hxb : Sl encT (ph w) xB xb) (hk : Sl (encA 16) (ph w) v ks) (hn : Sl encI (ph w) v2 K) (hs : Sl encI (ph w) a S) (hf : Sl encI (ph w) b F) (hb : Sl encT (ph w) c B) : Ct Try.prog 43 [.agg [xN, xS, xB].toArray, v, v2, .agg [a, b, c].toArray] w (fun r _ _ => r = vi (Gu.chk xs xb ks K S F B)) := by
 refine fn_enter Try.func43 rfl Try.ntmps43 (Nat.le_of_ble_eq_true rfl) fun a hF hS => ?_
 have hsl := hxs.1
 have htl := hxb.1
 have hkl := hk.1
 have hnl := hn.1
 have hbl := hb.1
 refine wp_seq_k ?_; intro K1 hK1
 refine regl ?_
 refine wpl_ef hF hS rfl (ef_boxA rfl) ?_
 clear hF hS; rintro _ _ _ a w ⟨b1, rfl, rfl, rfl⟩ hF hS
 refine wpl_ef hF hS rfl (ef_boxA rfl) ?_
 clear hF hS; rintro _ _ _ a w ⟨b2, rfl, rfl, rfl⟩ hF hS
 refine wpl_sq hF hS (sq rfl (q_assign rfl) <|
   sq_end) ?_
 clear hF hS; intro a w hF hS
 refine wpList_nil ?_
 refine hK1 _ _ ?_
 clear hK1
 refine wp_seq_k ?_; intro K2 hK2
 refine reg hF hS (sq rfl (q_fieldAddr ty34 rfl rfl (s' := 0) kQ) <|
   sq rfl (q_ld_blk1 ty22 1 rfl rfl rfl rfl) <|
   sq rfl (q_len_sl ty22 hxs rfl) <|
   sq rfl (q_assign rfl) <|
   sq_end) ?_
 clear hF hS; intro a w hF hS
 refine hK2 _ _ ?_
 clear hK2
 refine wp_seq_k ?_; intro K3 hK3
 refine wp_seq_k ?_; intro K4 hK4
 refine regl ?_
 refine wpl_sq hF hS (sq rfl (q_fieldAddr ty34 rfl rfl (s' := 0) kQ) <|
   sq rfl (q_ld_blk1 ty23 1 rfl rfl rfl rfl) <|
   sq rfl (q_len_sl ty23 hxb rfl) <|
   sq rfl (q_move rfl) <|
   sq rfl (q_nei rfl rfl) <|
   sq rfl (q_move rfl) <|
   sq_end) ?_
 clear hF hS; intro a w hF hS
 refine wpl_or 5 23 4 hF hS rfl rfl rfl rfl rfl (fun hg => have hg := (nd_false hg); sq_go 23 rfl rfl rfl (q_move rfl) <|
   sq_go 23 rfl rfl rfl (q_len_sl ty62 hk rfl) <|
   sq_go 23 rfl rfl rfl (q_move rfl) <|
   sq_go 23 rfl rfl rfl (q_nei rfl rfl) <|
   sq_end) rfl rfl ?_
 clear hF hS; intro a w hF hS
 refine wpl_sq hF hS (sq rfl (q_move rfl) <|
   sq_end) ?_
 clear hF hS; intro a w hF hS
 refine wpl_or 11 29 4 hF hS rfl rfl rfl rfl rfl (fun hg => have hg := hg; sq_go 29 rfl rfl rfl (q_move rfl) <|
   sq_go 29 rfl rfl rfl (q_len_sl ty22 hn rfl) <|
   sq_go 29 rfl rfl rfl (q_move rfl) <|
   sq_go 29 rfl rfl rfl (q_nei rfl rfl) <|
   sq_end) rfl rfl ?_
 clear hF hS; intro a w hF hS
 refine wpl_sq hF hS (sq rfl (q_move rfl) <|
   sq_end) ?_
 clear hF hS; intro a w hF hS
 refine wpl_or 17 35 2 hF hS rfl rfl rfl rfl rfl (fun hg => have hg := hg; sq_go 35 rfl rfl rfl (q_move rfl) <|
   sq_go 35 rfl rfl rfl (q_call fn57 rfl (fun w hS => contf_ct _ _ _ (fun _ => True) Gu.ckm (fun _ _ => trivial) w (Sl.mono (hS.le zin0) hn) ⟨73, [], [], rfl, fn73, fun w' hle x0 hq => check1_ct _ w'⟩) (fun _ _ _ h => h)) <|
   sq_end) rfl rfl ?_
 clear hF hS; intro a w hF hS
 refine wpList_nil ?_
 refine hK4 _ _ ?_
 clear hK4
 refine wp_if hF rfl (fun hc1 => ?_) (fun hc1 => ?_)
 ·(try simp only [Bool.or_eq_true, Bool.and_eq_true, Bool.or_eq_false_iff, Bool.and_eq_false_iff, decide_eq_true_eq, decide_eq_false_iff_not, Bool.not_eq_true', Bool.not_eq_false'] at hc1)
  refine wp_seq_k ?_; intro K5 hK5
  refine reg hF hS (sq rfl (q_assign rfl) <|
    sq_end) ?_
  clear hF hS; intro a w hF hS
  refine hK5 _ _ ?_
  clear hK5
  refine wp_ret ?_
  exact fn_ret (rs := [.tmp 8]) rfl hF hS (vs := [_]) ⟨rfl, trivial⟩ zQ zQ (by rw [Gu.chk_1 (fun h => by obtain ⟨⟨e1, e2, e3⟩, e4⟩ := h; rw [e1, e2, e3, e4] at hc1; simp at hc1)])
 ·(try simp only [Bool.or_eq_true, Bool.and_eq_true, Bool.or_eq_false_iff, Bool.and_eq_false_iff, decide_eq_true_eq, decide_eq_false_iff_not, Bool.not_eq_true', Bool.not_eq_false'] at hc1)
  have hq : (xb.length = xs.length ∧ ks.length = xs.length ∧ K.length = xs.length) ∧ K.any Gu.ckm = false := ⟨⟨by omega, by omega, by omega⟩, hc1.2⟩
  have hcl := Gu.cls_len xb ks
  have hgl := Gu.gl_len xs xb B
  refine wp_skip ?_
  refine hK3 _ _ ?_
  clear hK3
  refine wp_seq_k ?_; intro K6 hK6
  refine regl ?_
  refine wpl_sq hF hS (sq rfl (q_ld_blkW ty34 1 rfl rfl bQ rfl) <|
    sq rfl (q_fieldAddr ty61 rfl rfl (s' := 0) kQ) <|
    sq rfl (q_ld_blk1 ty23 0 rfl rfl rfl rfl) <|
    sq_end) ?_
  clear hF hS; intro a w hF hS
  refine wpl_ef hF hS rfl (ef_call fn13 rfl (fun w hS => guilty_ct _ _ _ _ _ _ _ (by first | with_reducible assumption | omega) w hxn (Sl.mono (hS.le zin0) hxs) (Sl.mono (hS.le zin0) hxb) (Sl.mono (hS.le zin0) hb))) ?_
  clear hF hS; rintro _ _ _ a w ⟨_, _, rfl, rfl, ⟨v4, z5, hz6, rfl, rfl, rfl⟩⟩ hF hS
  replace hS : St _ [_] [_, _] _ := hS
  refine wpl_sq hF hS (sq rfl (q_move rfl) <|
    sq rfl (q_extract rfl rfl) <|
    sq rfl (q_extract rfl rfl) <|
    sq rfl (q_assign rfl) <|
    sq rfl (q_assign rfl) <|
    sq_end) ?_
  clear hF hS; intro a w hF hS
  refine wpList_nil ?_
  refine hK6 _ _ ?_
  clear hK6
  refine wp_seq_k ?_; intro K7 hK7
  refine regl ?_
  refine wpl_sq hF hS (sq rfl (q_ld_blkW ty34 1 rfl rfl bQ rfl) <|
    sq rfl (q_move rfl) <|
    sq_end) ?_
  clear hF hS; intro a w hF hS
  refine wpl_ef hF hS rfl (ef_call fn70 rfl (fun w hS => classes_ct _ _ _ _ _ _ _ (by first | with_reducible assumption | omega) (by omega) (by omega) w hxn (Sl.mono (hS.le zin0) hxs) (Sl.mono (hS.le zin0) hxb) (Sl.mono (hS.le zin0) hk))) ?_
  clear hF hS; rintro v7 _ _ a w ⟨_, _, rfl, rfl, ⟨z8, hz9, rfl, rfl⟩⟩ hF hS
  replace hS : St _ [_, _] [_, _] _ := hS
  refine wpl_sq hF hS (sq rfl (q_assign rfl) <|
    sq_end) ?_
  clear hF hS; intro a w hF hS
  refine wpList_nil ?_
  refine hK7 _ _ ?_
  clear hK7
  refine wp_seq_k ?_; intro K8 hK8
  refine wp_seq_k ?_; intro K9 hK9
  refine regl ?_
  refine wpl_sq hF hS (sq rfl (q_move rfl) <|
    sq rfl (q_nei rfl rfl) <|
    sq rfl (q_move rfl) <|
    sq_end) ?_
  clear hF hS; intro a w hF hS
  refine wpl_or 2 51 5 hF hS rfl rfl rfl rfl rfl (fun hg => have hg := (nd_false hg); sq_go 51 rfl rfl rfl (q_move rfl) <|
    sq_go 51 rfl rfl rfl (q_fieldAddr ty61 rfl rfl (s' := 0) kQ) <|
    sq_go 51 rfl rfl rfl (q_ld_blk1 ty22 0 rfl rfl rfl rfl) <|
    sq_go 51 rfl rfl rfl (q_call fn74 rfl (fun w hS => equali_ct _ _ _ _ w (Sl.mono (hS.le (.inr (by simp))) hz6) (Sl.mono (hS.le zin0) hs)) (fun _ _ _ h => h)) <|
    sq_go 51 rfl rfl rfl (q_not rfl) <|
    sq_end) rfl rfl ?_
  clear hF hS; intro a w hF hS
  refine wpl_sq hF hS (sq rfl (q_move rfl) <|
    sq_end) ?_
  clear hF hS; intro a w hF hS
  refine wpl_or 9 58 5 hF hS rfl rfl rfl rfl rfl (fun hg => have hg := hg; sq_go 58 rfl rfl rfl (q_move rfl) <|
    sq_go 58 rfl rfl rfl (q_fieldAddr ty61 rfl rfl (s' := 0) kQ) <|
    sq_go 58 rfl rfl rfl (q_ld_blk1 ty22 0 rfl rfl rfl rfl) <|
    sq_go 58 rfl rfl rfl (q_call fn74 rfl (fun w hS => equali_ct _ _ _ _ w (Sl.mono (hS.le (.inr (by simp))) hz9) (Sl.mono (hS.le zin0) hf)) (fun _ _ _ h => h)) <|
    sq_go 58 rfl rfl rfl (q_not rfl) <|
    sq_end) rfl rfl ?_
  clear hF hS; intro a w hF hS
  refine wpList_nil ?_
  refine hK9 _ _ ?_
  clear hK9
  refine wp_if hF rfl (fun hc2 => ?_) (fun hc2 => ?_)
  ·(try simp only [Bool.or_eq_true, Bool.and_eq_true, Bool.or_eq_false_iff, Bool.and_eq_false_iff, decide_eq_true_eq, decide_eq_false_iff_not, Bool.not_eq_true', Bool.not_eq_false'] at hc2)
   refine wp_seq_k ?_; intro K10 hK10
   refine reg hF hS (sq rfl (q_assign rfl) <|
     sq_end) ?_
   clear hF hS; intro a w hF hS
   refine hK10 _ _ ?_
   clear hK10
   refine wp_ret ?_
   exact fn_ret (rs := [.tmp 8]) rfl hF hS (vs := [_]) ⟨rfl, trivial⟩ zQ zQ (by rw [Gu.chk_2 hq (fun h => by obtain ⟨⟨e1, e2⟩, e3⟩ := h; rcases hc2 with (h | h) | h; exact h e1; exact h e2; exact h e3)])
  ·(try simp only [Bool.or_eq_true, Bool.and_eq_true, Bool.or_eq_false_iff, Bool.and_eq_false_iff, decide_eq_true_eq, decide_eq_false_iff_not, Bool.not_eq_true', Bool.not_eq_false'] at hc2)
   have hfu := Gu.fits_use (Gu.ge_eq hc2.1.1)
   refine wp_skip ?_
   refine hK8 _ _ ?_
   clear hK8
   refine wp_seq_k ?_; intro K11 hK11
   refine wp_seq_k ?_; intro K12 hK12
   refine reg hF hS (sq rfl (q_move rfl) <|
     sq rfl (q_len_sl ty22 hz9 rfl) <|
     sq rfl (q_move rfl) <|
     sq_end) ?_
   clear hF hS; intro a w hF hS
   refine hK12 _ _ ?_
   clear hK12
   refine wp_block ?_
   obtain ⟨hs0, hhs0, hS⟩ : ∃ h, h = _ ∧ St _ _ h _ := ⟨_, rfl, hS⟩
   refine wp_loopx (γ := Int) (0) (fun (i : Int) => [(67, vi i)]) [(2, _), (7, _), (65, _), (66, _)] (fun (i : Int) => hs0) (fun (i : Int) => 0 ≤ i ∧ i ≤ (Gu.cls xb ks).length ∧ ∀ j, j < i.toNat → Gu.ckd xb ks K B j = false) (fun (i : Int) => ((Gu.cls xb ks).length - i).toNat) (hF.sub ⟨rfl, rfl, rfl, rfl, rfl, trivial⟩) (by subst hhs0; exact hS) (by exact ⟨Int.le_refl _, by omega, fun j hj => absurd hj (by simp)⟩) ?_
   clear hF hS; rintro i a w hfact hF hS
   subst hhs0; (try dsimp only at hfact); (try dsimp only at hF); (try dsimp only at hS)
   obtain ⟨hi0, hi1, hno⟩ := hfact
   replace hS : St _ [_, _] [_, _] _ := hS
   refine wp_seq_k ?_; intro K13 hK13
   refine reg hF hS (sq rfl (q_lti rfl rfl) <|
     sq_end) ?_
   clear hF hS; intro a w hF hS
   refine hK13 _ _ ?_
   clear hK13
   refine wp_seq_k ?_; intro K14 hK14
   refine wp_ifd hF rfl (fun hc3 => ?_) (fun hc3 => ?_)
   ·have hcr := Gu.clsAt_rng xb ks i.toNat
    have hce : ((Gu.cls xb ks).getD i.toNat 0) = Gu.clsAt xb ks i.toNat := Gu.cls_get (by omega)
    refine wp_skip ?_
    refine hK14 _ _ ?_
    clear hK14
    refine wp_seq_k ?_; intro K15 hK15
    refine wp_block ?_
    refine wp_seq_k ?_; intro K16 hK16
    refine reg hF hS (sq rfl (q_move rfl) <|
      sq rfl (q_idx_sl ty22 ty3 hz9 rfl rfl (by omega)) <|
      sq rfl (q_ld_I ty3 hz9 (.inr (by simp)) rfl rfl (by omega)) <|
      sq rfl (q_assign rfl) <|
      sq rfl (q_assign rfl) <|
      sq_end) ?_
    clear hF hS; intro a w hF hS
    refine hK16 _ _ ?_
    clear hK16
    refine wp_seq_k ?_; intro K17 hK17
    refine regq mixed kQ hS ?_
    refine wpq_seg hF (sq rfl (q_move rfl) <|
      sq rfl (q_gei rfl rfl) <|
      sq rfl (q_move rfl) <|
      sq_end) ?_
    clear hF; intro a hF
    refine wpq_andG (q := (decide (K.getD ((Gu.cls xb ks).getD i.toNat 0).toNat 0 = 0) || !(decide (K.getD ((Gu.cls xb ks).getD i.toNat 0).toNat 0 = 2) == B.getD i.toNat false))) 74 18 hF rfl (by rfl) rfl (by exact trivial) (fun _ => sq_skip 74 rfl rfl rfl rfl <|
      sq_skip 74 rfl rfl rfl rfl <|
      sq_skip 74 rfl rfl rfl rfl <|
      sq_skip 74 rfl rfl rfl rfl <|
      sq_skip 74 rfl rfl rfl rfl <|
      sq_skip 74 rfl rfl rfl rfl <|
      sq_skipu 80 rfl rfl rfl <|
      sq_skipu 80 rfl rfl rfl <|
      sq_skipu 80 rfl rfl rfl <|
      sq_skipu 80 rfl rfl rfl <|
      sq_skipu 80 rfl rfl rfl <|
      sq_skipu 80 rfl rfl rfl <|
      sq_skipu 80 rfl rfl rfl <|
      sq_skipu 80 rfl rfl rfl <|
      sq_skipu 80 rfl rfl rfl <|
      sq_skipu 80 rfl rfl rfl <|
      sq_skipu 80 rfl rfl rfl <|
      sq_skip 74 rfl rfl rfl rfl <|
      sq_end) rfl (fun hg a hF KG => ?_) ?_
    ·have hg := (by first | exact of_decide_eq_true hg | exact hg)
     refine wpq_seg hF (sq_go 74 rfl rfl rfl (q_move rfl) <|
       sq_go 74 rfl rfl rfl (q_move rfl) <|
       sq_go 74 rfl rfl rfl (q_idx_sl ty22 ty3 hn rfl rfl (by omega)) <|
       sq_go 74 rfl rfl rfl (q_ld_I ty3 hn zin0 rfl rfl (by omega)) <|
       sq_go 74 rfl rfl rfl (q_eqi rfl rfl) <|
       sq_go 74 rfl rfl rfl (q_move rfl) <|
       sq_end) ?_
     clear hF; intro a hF
     refine wpq_orP 8 80 11 2 74 hF rfl rfl rfl rfl rfl rfl rfl (fun hg => have hg := (by first | exact of_decide_eq_false hg | exact hg); sq_go 80 rfl rfl rfl (q_move rfl) <|
       sq_go 80 rfl rfl rfl (q_move rfl) <|
       sq_go 80 rfl rfl rfl (q_idx_sl ty22 ty3 hn rfl rfl (by omega)) <|
       sq_go 80 rfl rfl rfl (q_ld_I ty3 hn zin0 rfl rfl (by omega)) <|
       sq_go 80 rfl rfl rfl (q_eqi rfl rfl) <|
       sq_go 80 rfl rfl rfl (q_fieldAddr ty61 rfl rfl (s' := 0) kQ) <|
       sq_go 80 rfl rfl rfl (q_ld_blk1 ty23 0 rfl rfl rfl rfl) <|
       sq_go 80 rfl rfl rfl (q_move rfl) <|
       sq_go 80 rfl rfl rfl (q_idx_sl ty23 ty4 hb rfl rfl (by omega)) <|
       sq_go 80 rfl rfl rfl (q_ld_T ty4 hb zin0 rfl rfl (by omega)) <|
       sq_go 80 rfl rfl rfl (q_net ty4 rfl rfl) <|
       sq_end) rfl rfl ?_
     clear hF; intro a hF
     refine wpq_seg hF (sq rfl (q_pick_t rfl rfl) <|
       sq_end) ?_
     clear hF; intro a hF
     exact KG _ (hF.under 7 rfl rfl)
    clear hF; intro a hF
    refine wpq_nil ?_
    clear hS; intro w hS
    refine hK17 _ _ ?_
    clear hK17
    refine wp_if hF rfl (fun hc4 => ?_) (fun hc4 => ?_)
    ·(try simp only [Bool.or_eq_true, Bool.and_eq_true, Bool.or_eq_false_iff, Bool.and_eq_false_iff, decide_eq_true_eq, decide_eq_false_iff_not, Bool.not_eq_true', Bool.not_eq_false'] at hc4)
     have hdf := Gu.ckd_t (by omega) hc4
     refine wp_seq_k ?_; intro K18 hK18
     refine reg hF hS (sq rfl (q_assign rfl) <|
       sq_end) ?_
     clear hF hS; intro a w hF hS
     refine hK18 _ _ ?_
     clear hK18
     refine wp_ret ?_
     exact fn_ret (rs := [.tmp 8]) rfl hF hS (vs := [_]) ⟨rfl, trivial⟩ zQ zQ (by rw [Gu.chk_3 hq hc2 (by omega) hdf])
    ·(try simp only [Bool.or_eq_true, Bool.and_eq_true, Bool.or_eq_false_iff, Bool.and_eq_false_iff, decide_eq_true_eq, decide_eq_false_iff_not, Bool.not_eq_true', Bool.not_eq_false'] at hc4)
     have hdf := Gu.ckd_f (by omega) hc4
     refine wp_skip ?_
     refine hK15 _ _ ?_
     clear hK15
     refine reg hF hS (sq rfl (q_addi rfl rfl (by omega)) <|
       sq rfl (q_move rfl) <|
       sq_end) ?_
     clear hF hS; intro a w hF hS
     refine ⟨(i + 1), ?_, ?_, hF.sub ⟨rfl, rfl, rfl, rfl, rfl, trivial⟩, ?_⟩
     ·(try dsimp only); omega
     ·refine ⟨by omega, by omega, fun j hj => ?_⟩
      by_cases hji : j = i.toNat
      ·subst hji; exact hdf
      ·exact hno j (by omega)
     ·exact hS
   ·refine wp_exit ?_
    refine hK11 _ _ ?_
    clear hK11
    refine wp_seq_k ?_; intro K19 hK19
    refine reg hF hS (sq rfl (q_assign rfl) <|
      sq_end) ?_
    clear hF hS; intro a w hF hS
    refine hK19 _ _ ?_
    clear hK19
    refine wp_ret ?_
    exact fn_ret (rs := [.tmp 8]) rfl hF hS (vs := [_]) ⟨rfl, trivial⟩ zQ zQ (by rw [Gu.chk_4 hq hc2 (fun j hj => hno j (by omega))])
end Go.Proofs.Ytcbjemjohacbpaa
