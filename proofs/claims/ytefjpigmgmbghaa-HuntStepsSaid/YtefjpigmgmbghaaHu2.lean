/- A text of a proof over this seat: walks over the program's functions and the plain laws that they need. -/
import Derived.Test.YtefjpigmgmbghaaHu1
import Derived.Test.YtefjpigmgmbghaaHpA
import Derived.Test.YtefjpigmgmbghaaFwD
import Derived.Test.YtefjpigmgmbghaaFwB
set_option linter.all false
namespace Go.Proofs.Ytefjpigmgmbghaa
open Go.Fw
theorem ty4 : Tf Try.prog 4 .bool 1 1 (Value.bool false) := ⟨Try.underlying4, by kernel_rfl⟩
theorem ty5 : Tf Try.prog 5 (.int .u8) 1 1 (Value.int .u8 0) := ⟨Try.underlying5, by kernel_rfl⟩
theorem ty66 : Tf Try.prog 66 (.array 16 5) 16 16 (.agg (List.replicate 16 (Value.int .u8 0)).toArray) := ⟨Try.underlying66, by kernel_rfl⟩
theorem ty109 : Tf Try.prog 109 (.map 66 3) 1 8 (Value.map none) := ⟨Try.underlying109, by kernel_rfl⟩
theorem fn50 : FnOk Try.prog 50 := ⟨_, Try.func50, rfl, by kernel_rfl⟩
theorem fn66 : FnOk Try.prog 66 := ⟨_, Try.func66, rfl, by kernel_rfl⟩
set_option maxRecDepth 4000 in
set_option maxHeartbeats 2000000 in
theorem fits_ct (xN xS xB : Value) (xs : List Int) (xb : List Bool) (kV mV : Value) (ks : List (List UInt8)) (ms : List Int) (w : World) (hxn : xN.oneCell' = true) (hxs : Sl encI (ph w) xS xs) (hxb : Sl encT (ph w) xB xb) (hk : Sl (encA 16) (ph w) kV ks) (hm : Sl encI (ph w) mV ms) : Ct Try.prog 54 [.agg [xN, xS, xB].toArray, .agg [kV, mV].toArray] w (fun r _ _ => r = .bool (Hu.fitB xs xb ks ms)) := by
 refine fn_enter Try.func54 rfl Try.ntmps54 (Nat.le_of_ble_eq_true rfl) fun a hF hS => ?_
 have hsl := hxs.1
 have htl := hxb.1
 have hkl := hk.1
 have hml := hm.1
 have hk16 : ∀ j, j < ks.length → (ks.getD j []).length = 16 := fun j hj => by have := hk.rep (i := j) (x := ks[j]) (by simp [hj]); rw [List.getD_eq_getElem?_getD, List.getElem?_eq_getElem hj]; exact this.1
 refine wp_seq_k ?_; intro K1 hK1
 refine regl ?_
 refine wpl_ef hF hS rfl (ef_boxA rfl) ?_
 clear hF hS; rintro _ _ _ a w ⟨b1, rfl, rfl, rfl⟩ hF hS
 refine wpl_ef hF hS rfl (ef_boxA rfl) ?_
 clear hF hS; rintro _ _ _ a w ⟨b2, rfl, rfl, rfl⟩ hF hS
 refine wpl_sq hF hS (sq rfl (q_assign rfl) <|
   sq_end) ?_
 clear hF hS; intro a w hF hS
 refine wpList_nil ?_
 refine hK1 _ _ ?_
 clear hK1
 refine wp_seq_k ?_; intro K2 hK2
 refine reg hF hS (sq rfl (q_fieldAddr ty42 rfl rfl (s' := 0) kQ) <|
   sq rfl (q_ld_blk1 ty22 1 rfl rfl rfl rfl) <|
   sq rfl (q_len_sl ty22 hxs rfl) <|
   sq rfl (q_assign rfl) <|
   sq_end) ?_
 clear hF hS; intro a w hF hS
 refine hK2 _ _ ?_
 clear hK2
 refine wp_seq_k ?_; intro K3 hK3
 refine wp_seq_k ?_; intro K4 hK4
 refine regl ?_
 refine wpl_sq hF hS (sq rfl (q_ld_blkW ty42 1 rfl rfl bQ rfl) <|
   sq rfl (q_call fn50 rfl (fun w hS => ordered_ct _ _ _ _ _ w hxn (Sl.mono (hS.le zin0) hxs) (Sl.mono (hS.le zin0) hxb)) (fun _ _ _ h => h)) <|
   sq rfl (q_not rfl) <|
   sq rfl (q_move rfl) <|
   sq_end) ?_
 clear hF hS; intro a w hF hS
 refine wpl_or 3 17 5 hF hS rfl rfl rfl rfl rfl (fun hg => have hg := hg; sq_go 17 rfl rfl rfl (q_fieldAddr ty38 rfl rfl (s' := 0) kQ) <|
   sq_go 17 rfl rfl rfl (q_ld_blk1 ty28 0 rfl rfl rfl rfl) <|
   sq_go 17 rfl rfl rfl (q_len_sl ty28 hk rfl) <|
   sq_go 17 rfl rfl rfl (q_move rfl) <|
   sq_go 17 rfl rfl rfl (q_nei rfl rfl) <|
   sq_end) rfl rfl ?_
 clear hF hS; intro a w hF hS
 refine wpl_sq hF hS (sq rfl (q_move rfl) <|
   sq_end) ?_
 clear hF hS; intro a w hF hS
 refine wpl_or 10 24 5 hF hS rfl rfl rfl rfl rfl (fun hg => have hg := hg; sq_go 24 rfl rfl rfl (q_fieldAddr ty38 rfl rfl (s' := 0) kQ) <|
   sq_go 24 rfl rfl rfl (q_ld_blk1 ty22 0 rfl rfl rfl rfl) <|
   sq_go 24 rfl rfl rfl (q_len_sl ty22 hm rfl) <|
   sq_go 24 rfl rfl rfl (q_move rfl) <|
   sq_go 24 rfl rfl rfl (q_nei rfl rfl) <|
   sq_end) rfl rfl ?_
 clear hF hS; intro a w hF hS
 refine wpList_nil ?_
 refine hK4 _ _ ?_
 clear hK4
 refine wp_if hF rfl (fun hc1 => ?_) (fun hc1 => ?_)
 ·(try simp only [Bool.or_eq_true, Bool.and_eq_true, Bool.or_eq_false_iff, Bool.and_eq_false_iff, decide_eq_true_eq, decide_eq_false_iff_not, Bool.not_eq_true', Bool.not_eq_false'] at hc1)
  refine wp_seq_k ?_; intro K5 hK5
  refine reg hF hS (sq rfl (q_assign rfl) <|
    sq_end) ?_
  clear hF hS; intro a w hF hS
  refine hK5 _ _ ?_
  clear hK5
  refine wp_ret ?_
  exact fn_ret (rs := [.tmp 4]) rfl hF hS (vs := [_]) ⟨rfl, trivial⟩ zQ zQ (by rw [Hu.fit_len (Hu.lenB_no hc1)])
 ·(try simp only [Bool.or_eq_true, Bool.and_eq_true, Bool.or_eq_false_iff, Bool.and_eq_false_iff, decide_eq_true_eq, decide_eq_false_iff_not, Bool.not_eq_true', Bool.not_eq_false'] at hc1)
  have hln := Hu.lenB_ok hc1
  have hxl := Hu.ordB_len hc1.1.1
  refine wp_skip ?_
  refine hK3 _ _ ?_
  clear hK3
  refine wp_seq_k ?_; intro K6 hK6
  refine regl ?_
  refine wpl_ef hF hS rfl (ef_mkmap) ?_
  clear hF hS; rintro _ _ _ a w ⟨b3, rfl, rfl, rfl⟩ hF hS
  replace hS : St _ [] [_, _, _] _ := hS
  refine wpl_sq hF hS (sq rfl (q_assign rfl) <|
    sq_end) ?_
  clear hF hS; intro a w hF hS
  refine wpList_nil ?_
  refine hK6 _ _ ?_
  clear hK6
  refine wp_seq_k ?_; intro K7 hK7
  refine wp_seq_k ?_; intro K8 hK8
  refine reg hF hS (sq rfl (q_fieldAddr ty38 rfl rfl (s' := 0) kQ) <|
    sq rfl (q_ld_blk1 ty22 1 rfl rfl rfl rfl) <|
    sq rfl (q_len_sl ty22 hm rfl) <|
    sq rfl (q_move rfl) <|
    sq_end) ?_
  clear hF hS; intro a w hF hS
  refine hK8 _ _ ?_
  clear hK8
  refine wp_block ?_
  obtain ⟨hs0, hhs0, hS⟩ : ∃ h, h = _ ∧ St _ _ h _ := ⟨_, rfl, hS⟩
  refine wp_loopx (γ := List MapEntry × Nat × List (List UInt8 × Value) × Int) ([], 0, [], 0) (fun (gg : List MapEntry × Nat × List (List UInt8 × Value) × Int) => match gg with | (es, ec, ml, i) => [(35, vi i)]) [(2, _), (3, _), (6, _), (33, _), (34, _)] (fun (gg : List MapEntry × Nat × List (List UInt8 × Value) × Int) => match gg with | (es, ec, ml, i) => (hs0.set 0 (.mp b3 es ec))) (fun (gg : List MapEntry × Nat × List (List UInt8 × Value) × Int) => match gg with | (es, ec, ml, i) => 0 ≤ i ∧ i ≤ ms.length ∧ MpR abv ml es ∧ Hu.MrkM xb ks ms i.toNat ml ∧ ∀ j, j < i.toNat → Hu.fitI xb ks ms j = true) (fun (gg : List MapEntry × Nat × List (List UInt8 × Value) × Int) => match gg with | (es, ec, ml, i) => (ms.length - i).toNat) (hF.sub ⟨rfl, rfl, rfl, rfl, rfl, rfl, trivial⟩) (by subst hhs0; exact hS) (by exact ⟨Int.le_refl _, by omega, rfl, .start, fun j hj => absurd hj (by simp)⟩) ?_
  clear hF hS; rintro ⟨es, ec, ml, i⟩ a w hfact hF hS
  subst hhs0; (try dsimp only at hfact); (try dsimp only at hF); (try dsimp only at hS)
  obtain ⟨hi0, hi1, hMm, hMr, hno⟩ := hfact
  replace hS : St _ [] [_, _, _] _ := hS
  refine wp_seq_k ?_; intro K9 hK9
  refine reg hF hS (sq rfl (q_lti rfl rfl) <|
    sq_end) ?_
  clear hF hS; intro a w hF hS
  refine hK9 _ _ ?_
  clear hK9
  refine wp_seq_k ?_; intro K10 hK10
  refine wp_ifd hF rfl (fun hc2 => ?_) (fun hc2 => ?_)
  ·have hki := hk16 i.toNat (by omega)
   refine wp_skip ?_
   refine hK10 _ _ ?_
   clear hK10
   refine wp_seq_k ?_; intro K11 hK11
   refine wp_block ?_
   refine wp_seq_k ?_; intro K12 hK12
   refine reg hF hS (sq rfl (q_move rfl) <|
     sq rfl (q_idx_sl ty22 ty3 hm rfl rfl (by omega)) <|
     sq rfl (q_ld_I ty3 hm zin0 rfl rfl (by omega)) <|
     sq rfl (q_assign rfl) <|
     sq rfl (q_assign rfl) <|
     sq_end) ?_
   clear hF hS; intro a w hF hS
   refine hK12 _ _ ?_
   clear hK12
   refine wp_seq_k ?_; intro K13 hK13
   refine wp_seq_k ?_; intro K14 hK14
   refine regl ?_
   refine wpl_sq hF hS (sq rfl (q_move rfl) <|
     sq rfl (q_lti rfl rfl) <|
     sq rfl (q_move rfl) <|
     sq_end) ?_
   clear hF hS; intro a w hF hS
   refine wpl_or 2 42 2 hF hS rfl rfl rfl rfl rfl (fun hg => have hg := (by first | exact of_decide_eq_false hg | exact hg); sq_go 42 rfl rfl rfl (q_move rfl) <|
     sq_go 42 rfl rfl rfl (q_gti rfl rfl) <|
     sq_end) rfl rfl ?_
   clear hF hS; intro a w hF hS
   refine wpl_sq hF hS (sq rfl (q_move rfl) <|
     sq_end) ?_
   clear hF hS; intro a w hF hS
   refine wpl_orG (q := (!(xb.getD i.toNat false) && !decide ((ms.getD i.toNat 0) = 0))) 46 10 hF hS rfl (by rfl) rfl (fun _ => sq_skip 46 rfl rfl rfl rfl <|
     sq_skip 46 rfl rfl rfl rfl <|
     sq_skip 46 rfl rfl rfl rfl <|
     sq_skip 46 rfl rfl rfl rfl <|
     sq_skip 46 rfl rfl rfl rfl <|
     sq_skip 46 rfl rfl rfl rfl <|
     sq_skip 46 rfl rfl rfl rfl <|
     sq_skipu 53 rfl rfl rfl <|
     sq_skipu 53 rfl rfl rfl <|
     sq_skip 46 rfl rfl rfl rfl <|
     sq_end) rfl (fun hg a w hF hS KG => ?_) ?_
   ·have hg := hg
    refine wpl_sq hF hS (sq_go 46 rfl rfl rfl (q_fieldAddr ty42 rfl rfl (s' := 0) kQ) <|
      sq_go 46 rfl rfl rfl (q_ld_blk1 ty24 2 rfl rfl rfl rfl) <|
      sq_go 46 rfl rfl rfl (q_move rfl) <|
      sq_go 46 rfl rfl rfl (q_idx_sl ty24 ty4 hxb rfl rfl (by omega)) <|
      sq_go 46 rfl rfl rfl (q_ld_T ty4 hxb zin0 rfl rfl (by omega)) <|
      sq_go 46 rfl rfl rfl (q_not rfl) <|
      sq_go 46 rfl rfl rfl (q_move rfl) <|
      sq_end) ?_
    clear hF hS; intro a w hF hS
    refine wpl_andP 13 53 2 6 46 hF hS rfl rfl rfl rfl rfl rfl rfl (fun hg2 => have hg2 := hg2; sq_go 53 rfl rfl rfl (q_move rfl) <|
      sq_go 53 rfl rfl rfl (q_nei rfl rfl) <|
      sq_end) rfl rfl ?_
    clear hF hS; intro a w hF hS
    refine wpl_sq hF hS (sq rfl (q_pick_f rfl rfl) <|
      sq_end) ?_
    clear hF hS; intro a w hF hS
    exact KG _ _ (hF.under 8 rfl rfl) hS
   clear hF hS; intro a w hF hS
   refine wpList_nil ?_
   refine hK14 _ _ ?_
   clear hK14
   refine wp_if hF rfl (fun hc3 => ?_) (fun hc3 => ?_)
   ·(try simp only [Bool.or_eq_true, Bool.and_eq_true, Bool.or_eq_false_iff, Bool.and_eq_false_iff, decide_eq_true_eq, decide_eq_false_iff_not, Bool.not_eq_true', Bool.not_eq_false'] at hc3)
    refine wp_seq_k ?_; intro K15 hK15
    refine reg hF hS (sq rfl (q_assign rfl) <|
      sq_end) ?_
    clear hF hS; intro a w hF hS
    refine hK15 _ _ ?_
    clear hK15
    refine wp_ret ?_
    exact fn_ret (rs := [.tmp 4]) rfl hF hS (vs := [_]) ⟨rfl, trivial⟩ zQ zQ (by rw [Hu.fit_rg (i := i.toNat) (by omega) (by simpa using hc3)])
   ·(try simp only [Bool.or_eq_true, Bool.and_eq_true, Bool.or_eq_false_iff, Bool.and_eq_false_iff, decide_eq_true_eq, decide_eq_false_iff_not, Bool.not_eq_true', Bool.not_eq_false'] at hc3)
    refine wp_skip ?_
    refine hK13 _ _ ?_
    clear hK13
    refine wp_seq_k ?_; intro K16 hK16
    refine wp_seq_k ?_; intro K17 hK17
    refine reg hF hS (sq rfl (q_fieldAddr ty42 rfl rfl (s' := 0) kQ) <|
      sq rfl (q_ld_blk1 ty24 2 rfl rfl rfl rfl) <|
      sq rfl (q_move rfl) <|
      sq rfl (q_idx_sl ty24 ty4 hxb rfl rfl (by omega)) <|
      sq rfl (q_ld_T ty4 hxb zin0 rfl rfl (by omega)) <|
      sq rfl (q_not rfl) <|
      sq_end) ?_
    clear hF hS; intro a w hF hS
    refine hK17 _ _ ?_
    clear hK17
    refine wp_if hF rfl (fun hc4 => ?_) (fun hc4 => ?_)
    ·have hb9 : xb.getD i.toNat false = false := by simpa using hc4
     refine wp_exit ?_
     refine hK11 _ _ ?_
     clear hK11
     refine reg hF hS (sq rfl (q_addi rfl rfl (by omega)) <|
       sq rfl (q_move rfl) <|
       sq_end) ?_
     clear hF hS; intro a w hF hS
     refine ⟨(es, ec, ml, i + 1), ?_, ?_, hF.sub ⟨rfl, rfl, rfl, rfl, rfl, rfl, trivial⟩, ?_⟩
     ·(try dsimp only); omega
     ·refine ⟨by omega, by omega, hMm, hMr.skip hi0 hb9, fun j hj => ?_⟩
      by_cases hji : j = i.toNat
      ·subst hji; exact Hu.fitI_of (Hu.rg_ok hc3) (fun t _ => by unfold Hu.sameI; rw [hb9]; rfl)
      ·exact hno j (by omega)
     ·exact hS
    ·have hb9 : xb.getD i.toNat false = true := by simpa using hc4
     obtain ⟨ok9, old9, ha1, ha2, ha3, ha4, ha5⟩ := hMr.ask (ks.getD i.toNat [])
     refine wp_skip ?_
     refine hK16 _ _ ?_
     clear hK16
     refine wp_seq_k ?_; intro K18 hK18
     refine wp_seq_k ?_; intro K19 hK19
     refine reg hF hS (sq rfl (q_move rfl) <|
       sq rfl (q_fieldAddr ty38 rfl rfl (s' := 0) kQ) <|
       sq rfl (q_ld_blk1 ty28 1 rfl rfl rfl rfl) <|
       sq rfl (q_move rfl) <|
       sq rfl (q_idx_sl ty28 ty66 hk rfl rfl (by omega)) <|
       sq rfl (q_ld_AB ty66 hk zin0 rfl rfl (by decide) (by omega)) <|
       sq rfl (q_lookupk2 ty109 ty3 (key_AB ty66 ty5) 0 rfl rfl rfl hMm hMr.1 (by assumption) ha1 ha2) <|
       sq rfl (q_move rfl) <|
       sq rfl (q_extract rfl rfl) <|
       sq rfl (q_extract rfl rfl) <|
       sq rfl (q_assign rfl) <|
       sq rfl (q_assign rfl) <|
       sq_end) ?_
     clear hF hS; intro a w hF hS
     refine hK19 _ _ ?_
     clear hK19
     refine wp_seq_k ?_; intro K20 hK20
     refine regl ?_
     refine wpl_sq hF hS (sq rfl (q_move rfl) <|
       sq rfl (q_move rfl) <|
       sq_end) ?_
     clear hF hS; intro a w hF hS
     refine wpl_and 1 75 3 hF hS rfl rfl rfl rfl rfl (fun hg => have hg := hg; sq_go 75 rfl rfl rfl (q_move rfl) <|
       sq_go 75 rfl rfl rfl (q_move rfl) <|
       sq_go 75 rfl rfl rfl (q_nei rfl rfl) <|
       sq_end) rfl rfl ?_
     clear hF hS; intro a w hF hS
     refine wpList_nil ?_
     refine hK20 _ _ ?_
     clear hK20
     refine wp_if hF rfl (fun hc5 => ?_) (fun hc5 => ?_)
     ·(try simp only [Bool.or_eq_true, Bool.and_eq_true, Bool.or_eq_false_iff, Bool.and_eq_false_iff, decide_eq_true_eq, decide_eq_false_iff_not, Bool.not_eq_true', Bool.not_eq_false'] at hc5)
      refine wp_seq_k ?_; intro K21 hK21
      refine reg hF hS (sq rfl (q_assign rfl) <|
        sq_end) ?_
      clear hF hS; intro a w hF hS
      refine hK21 _ _ ?_
      clear hK21
      refine wp_ret ?_
      exact fn_ret (rs := [.tmp 4]) rfl hF hS (vs := [_]) ⟨rfl, trivial⟩ zQ zQ (by obtain ⟨j, h1, h2, h3, h4⟩ := ha3 hc5.1; rw [Hu.fit_same (i := i.toNat) (by omega) h1 hb9 h2 h3.symm (by rw [← h4]; exact fun e => hc5.2 e.symm)])
     ·(try simp only [Bool.or_eq_true, Bool.and_eq_true, Bool.or_eq_false_iff, Bool.and_eq_false_iff, decide_eq_true_eq, decide_eq_false_iff_not, Bool.not_eq_true', Bool.not_eq_false'] at hc5)
      have hsm := Hu.same_all hb9 hc5 ha4 ha5
      have hMr2 := hMr.step hi0 hb9 hki hsm
      refine wp_skip ?_
      refine hK18 _ _ ?_
      clear hK18
      refine regl ?_
      refine wpl_sq hF hS (sq rfl (q_move rfl) <|
        sq rfl (q_fieldAddr ty38 rfl rfl (s' := 0) kQ) <|
        sq rfl (q_ld_blk1 ty28 1 rfl rfl rfl rfl) <|
        sq rfl (q_move rfl) <|
        sq rfl (q_idx_sl ty28 ty66 hk rfl rfl (by omega)) <|
        sq rfl (q_ld_AB ty66 hk zin0 rfl rfl (by decide) (by omega)) <|
        sq rfl (q_move rfl) <|
        sq_end) ?_
      clear hF hS; intro a w hF hS
      refine wpl_ef hF hS rfl (ef_mapset ty109 (key_AB ty66 ty5) 0 rfl rfl rfl rfl hMm hMr.1 (by assumption)) ?_
      clear hF hS; rintro _ _ _ a w ⟨es1, ec1, hM1, rfl, rfl, rfl⟩ hF hS
      replace hS : St _ [] [_, _, _] _ := hS
      refine wpList_nil ?_
      refine hK11 _ _ ?_
      clear hK11
      refine reg hF hS (sq rfl (q_addi rfl rfl (by omega)) <|
        sq rfl (q_move rfl) <|
        sq_end) ?_
      clear hF hS; intro a w hF hS
      refine ⟨(es1, ec1, aset (ks.getD i.toNat []) (vi (ms.getD i.toNat 0)) ml, i + 1), ?_, ?_, hF.sub ⟨rfl, rfl, rfl, rfl, rfl, rfl, trivial⟩, ?_⟩
      ·(try dsimp only); omega
      ·refine ⟨by omega, by omega, hM1, hMr2, fun j hj => ?_⟩
       by_cases hji : j = i.toNat
       ·subst hji; exact Hu.fitI_of (Hu.rg_ok hc3) hsm
       ·exact hno j (by omega)
      ·exact hS
  ·refine wp_exit ?_
   refine hK7 _ _ ?_
   clear hK7
   refine wp_seq_k ?_; intro K22 hK22
   refine reg hF hS (sq rfl (q_assign rfl) <|
     sq_end) ?_
   clear hF hS; intro a w hF hS
   refine hK22 _ _ ?_
   clear hK22
   refine wp_ret ?_
   exact fn_ret (rs := [.tmp 4]) rfl hF hS (vs := [_]) ⟨rfl, trivial⟩ zQ zQ (by rw [Hu.fit_ok hln (fun j hj => hno j (by omega))])

set_option maxRecDepth 4000 in
set_option maxHeartbeats 2000000 in
theorem cov_ct (xN xS xB : Value) (xs : List Int) (xb : List Bool) (kV mV : Value) (ks : List (List UInt8)) (ms : List Int) (i : Int) (hq1 : xb.length = xs.length) (hq2 : ms.length = xs.length) (hi : 0 ≤ i ∧ i < xs.length) (w : World) (hxn : xN.oneCell' = true) (hxs : Sl encI (ph w) xS xs) (hxb : Sl encT (ph w) xB xb) (hk : Sl (encA 16) (ph w) kV ks) (hm : Sl encI (ph w) mV ms) : Ct Try.prog 78 [.agg [xN, xS, xB].toArray, .agg [kV, mV].toArray, vi i] w (fun r _ _ => r = .bool (Hu.cov xs xb ms i.toNat)) := by
 refine fn_enter Try.func78 rfl Try.ntmps78 (Nat.le_of_ble_eq_true rfl) fun a hF hS => ?_
 have hsl := hxs.1
 have htl := hxb.1
 have hml := hm.1
 refine wp_seq_k ?_; intro K1 hK1
 refine regl ?_
 refine wpl_ef hF hS rfl (ef_boxA rfl) ?_
 clear hF hS; rintro _ _ _ a w ⟨b1, rfl, rfl, rfl⟩ hF hS
 refine wpl_ef hF hS rfl (ef_boxA rfl) ?_
 clear hF hS; rintro _ _ _ a w ⟨b2, rfl, rfl, rfl⟩ hF hS
 refine wpl_sq hF hS (sq rfl (q_assign rfl) <|
   sq_end) ?_
 clear hF hS; intro a w hF hS
 refine wpList_nil ?_
 refine hK1 _ _ ?_
 clear hK1
 refine wp_seq_k ?_; intro K2 hK2
 refine wp_seq_k ?_; intro K3 hK3
 refine reg hF hS (sq rfl (q_fieldAddr ty42 rfl rfl (s' := 0) kQ) <|
   sq rfl (q_ld_blk1 ty22 1 rfl rfl rfl rfl) <|
   sq rfl (q_len_sl ty22 hxs rfl) <|
   sq rfl (q_move rfl) <|
   sq_end) ?_
 clear hF hS; intro a w hF hS
 refine hK3 _ _ ?_
 clear hK3
 refine wp_block ?_
 obtain ⟨hs0, hhs0, hS⟩ : ∃ h, h = _ ∧ St _ _ h _ := ⟨_, rfl, hS⟩
 refine wp_loopx (γ := Int) (0) (fun (j : Int) => [(12, vi j)]) [(2, _), (3, _), (4, _), (10, _), (11, _)] (fun (j : Int) => hs0) (fun (j : Int) => 0 ≤ j ∧ j ≤ xs.length ∧ (List.range j.toNat).any (Hu.cvj xs xb ms (xs.getD i.toNat 0)) = false) (fun (j : Int) => (xs.length - j).toNat) (hF.sub ⟨rfl, rfl, rfl, rfl, rfl, rfl, trivial⟩) (by subst hhs0; exact hS) (by exact ⟨Int.le_refl _, by omega, rfl⟩) ?_
 clear hF hS; rintro j a w hfact hF hS
 subst hhs0; (try dsimp only at hfact); (try dsimp only at hF); (try dsimp only at hS)
 obtain ⟨hj0, hj1, hno⟩ := hfact
 replace hS : St _ [] [_, _] _ := hS
 refine wp_seq_k ?_; intro K4 hK4
 refine reg hF hS (sq rfl (q_lti rfl rfl) <|
   sq_end) ?_
 clear hF hS; intro a w hF hS
 refine hK4 _ _ ?_
 clear hK4
 refine wp_seq_k ?_; intro K5 hK5
 refine wp_ifd hF rfl (fun hc1 => ?_) (fun hc1 => ?_)
 ·refine wp_skip ?_
  refine hK5 _ _ ?_
  clear hK5
  refine wp_seq_k ?_; intro K6 hK6
  refine wp_block ?_
  refine wp_seq_k ?_; intro K7 hK7
  refine reg hF hS (sq rfl (q_move rfl) <|
    sq rfl (q_idx_sl ty22 ty3 hxs rfl rfl (by omega)) <|
    sq rfl (q_ld_I ty3 hxs zin0 rfl rfl (by omega)) <|
    sq rfl (q_assign rfl) <|
    sq rfl (q_assign rfl) <|
    sq_end) ?_
  clear hF hS; intro a w hF hS
  refine hK7 _ _ ?_
  clear hK7
  refine wp_seq_k ?_; intro K8 hK8
  refine regl ?_
  refine wpl_sq hF hS (sq rfl (q_fieldAddr ty42 rfl rfl (s' := 0) kQ) <|
    sq rfl (q_ld_blk1 ty24 1 rfl rfl rfl rfl) <|
    sq rfl (q_move rfl) <|
    sq rfl (q_idx_sl ty24 ty4 hxb rfl rfl (by omega)) <|
    sq rfl (q_ld_T ty4 hxb zin0 rfl rfl (by omega)) <|
    sq rfl (q_move rfl) <|
    sq_end) ?_
  clear hF hS; intro a w hF hS
  refine wpl_and 5 22 6 hF hS rfl rfl rfl rfl rfl (fun hg => have hg := hg; sq_go 22 rfl rfl rfl (q_fieldAddr ty38 rfl rfl (s' := 0) kQ) <|
    sq_go 22 rfl rfl rfl (q_ld_blk1 ty22 0 rfl rfl rfl rfl) <|
    sq_go 22 rfl rfl rfl (q_move rfl) <|
    sq_go 22 rfl rfl rfl (q_idx_sl ty22 ty3 hm rfl rfl (by omega)) <|
    sq_go 22 rfl rfl rfl (q_ld_I ty3 hm zin0 rfl rfl (by omega)) <|
    sq_go 22 rfl rfl rfl (q_eqi rfl rfl) <|
    sq_end) rfl rfl ?_
  clear hF hS; intro a w hF hS
  refine wpl_sq hF hS (sq rfl (q_move rfl) <|
    sq_end) ?_
  clear hF hS; intro a w hF hS
  refine wpl_and 13 30 7 hF hS rfl rfl rfl rfl rfl (fun hg => have hg := hg; sq_go 30 rfl rfl rfl (q_move rfl) <|
    sq_go 30 rfl rfl rfl (q_fieldAddr ty42 rfl rfl (s' := 0) kQ) <|
    sq_go 30 rfl rfl rfl (q_ld_blk1 ty22 1 rfl rfl rfl rfl) <|
    sq_go 30 rfl rfl rfl (q_move rfl) <|
    sq_go 30 rfl rfl rfl (q_idx_sl ty22 ty3 hxs rfl rfl (by omega)) <|
    sq_go 30 rfl rfl rfl (q_ld_I ty3 hxs zin0 rfl rfl (by omega)) <|
    sq_go 30 rfl rfl rfl (q_call fn66 rfl (fun w hS => below_ct _ _ w ) (fun _ _ _ h => h)) <|
    sq_end) rfl rfl ?_
  clear hF hS; intro a w hF hS
  refine wpList_nil ?_
  refine hK8 _ _ ?_
  clear hK8
  refine wp_if hF rfl (fun hc2 => ?_) (fun hc2 => ?_)
  ·(try simp only [Bool.or_eq_true, Bool.and_eq_true, Bool.or_eq_false_iff, Bool.and_eq_false_iff, decide_eq_true_eq, decide_eq_false_iff_not, Bool.not_eq_true', Bool.not_eq_false'] at hc2)
   have hcj : (Hu.cvj xs xb ms (xs.getD i.toNat 0)) j.toNat = true := Hu.cvj_t hc2
   refine wp_seq_k ?_; intro K9 hK9
   refine reg hF hS (sq rfl (q_assign rfl) <|
     sq_end) ?_
   clear hF hS; intro a w hF hS
   refine hK9 _ _ ?_
   clear hK9
   refine wp_ret ?_
   exact fn_ret (rs := [.tmp 6]) rfl hF hS (vs := [_]) ⟨rfl, trivial⟩ zQ zQ (by unfold Hu.cov; rw [Hu.any_at (i := j.toNat) (by omega) hcj])
  ·(try simp only [Bool.or_eq_true, Bool.and_eq_true, Bool.or_eq_false_iff, Bool.and_eq_false_iff, decide_eq_true_eq, decide_eq_false_iff_not, Bool.not_eq_true', Bool.not_eq_false'] at hc2)
   have hcj : (Hu.cvj xs xb ms (xs.getD i.toNat 0)) j.toNat = false := Hu.cvj_f hc2
   refine wp_skip ?_
   refine hK6 _ _ ?_
   clear hK6
   refine reg hF hS (sq rfl (q_addi rfl rfl (by omega)) <|
     sq rfl (q_move rfl) <|
     sq_end) ?_
   clear hF hS; intro a w hF hS
   refine ⟨(j + 1), ?_, ?_, hF.sub ⟨rfl, rfl, rfl, rfl, rfl, rfl, trivial⟩, ?_⟩
   ·(try dsimp only); omega
   ·exact ⟨by omega, by omega, Hu.any_step hj0 hno hcj⟩
   ·exact hS
 ·refine wp_exit ?_
  refine hK2 _ _ ?_
  clear hK2
  refine wp_seq_k ?_; intro K10 hK10
  refine reg hF hS (sq rfl (q_assign rfl) <|
    sq_end) ?_
  clear hF hS; intro a w hF hS
  refine hK10 _ _ ?_
  clear hK10
  refine wp_ret ?_
  exact fn_ret (rs := [.tmp 6]) rfl hF hS (vs := [_]) ⟨rfl, trivial⟩ zQ zQ (by unfold Hu.cov; rw [show j.toNat = xs.length by omega] at hno; rw [hno])

end Go.Proofs.Ytefjpigmgmbghaa
