/- A text of a proof over this seat: walks over the program's functions and the plain laws that they need. -/
import Derived.Test.YtcbjemjohacbpaaGg15b
import Derived.Test.YtcbjemjohacbpaaGuA
import Derived.Test.YtcbjemjohacbpaaFwC
import Derived.Test.YtcbjemjohacbpaaFwB
set_option linter.all false
namespace Go.Proofs.Ytcbjemjohacbpaa
open Go.Fw
theorem fn72 : FnOk Try.prog 72 := ⟨_, Try.func72, rfl, by kernel_rfl⟩

set_option maxRecDepth 4000 in
set_option maxHeartbeats 2000000 in
theorem rclasses_ct (xN xS xB : Value) (xs : List Int) (xb : List Bool) (v : Value) (ks : List (List UInt8)) (hl : xs.length < 1048576) (hq1 : xb.length = xs.length) (hq2 : ks.length = xs.length) (w : World) (hxn : xN.oneCell' = true) (hxs : Sl encI (ph w) xS xs) (hxb : Sl encT (ph w) xB xb) (hk : Sl (encA 16) (ph w) v ks) : Ct Try.prog 72 [.agg [xN, xS, xB].toArray, v] w (SlR encI (Gu.cls xb ks)) := by
 refine fn_enter Try.func72 rfl Try.ntmps72 (Nat.le_of_ble_eq_true rfl) fun a hF hS => ?_
 have hsl := hxs.1
 have htl := hxb.1
 have hkl := hk.1
 have hk16 : ∀ j, j < ks.length → (ks.getD j []).length = 16 := fun j hj => by have := hk.rep (i := j) (x := ks[j]) (by simp [hj]); rw [List.getD_eq_getElem?_getD, List.getElem?_eq_getElem hj]; exact this.1
 refine wp_seq_k ?_; intro K1 hK1
 refine regl ?_
 refine wpl_ef hF hS rfl (ef_boxA rfl) ?_
 clear hF hS; rintro _ _ _ a w ⟨b1, rfl, rfl, rfl⟩ hF hS
 refine wpl_sq hF hS (sq rfl (q_assign rfl) <|
   sq_end) ?_
 clear hF hS; intro a w hF hS
 refine wpList_nil ?_
 refine hK1 _ _ ?_
 clear hK1
 refine wp_seq_k ?_; intro K2 hK2
 refine reg hF hS (sq rfl (q_assign rfl) <|
   sq_end) ?_
 clear hF hS; intro a w hF hS
 replace hS := hS.nilRow 3 1
 refine hK2 _ _ ?_
 clear hK2
 refine wp_seq_k ?_; intro K3 hK3
 refine wp_seq_k ?_; intro K4 hK4
 refine reg hF hS (sq rfl (q_assign rfl) <|
   sq_end) ?_
 clear hF hS; intro a w hF hS
 refine hK4 _ _ ?_
 clear hK4
 refine wp_block ?_
 obtain ⟨hs0, hhs0, hS⟩ : ∃ h, h = _ ∧ St _ _ h _ := ⟨_, rfl, hS⟩
 refine wp_loopx (γ := Value × Int) ((Value.slice none 0 0), 0) (fun (gg : Value × Int) => match gg with | (u, i) => [(5, u), (6, vi i)]) [(1, _), (2, _)] (fun (gg : Value × Int) => match gg with | (u, i) => (hs0.set 0 (.row u 3 1 i.toNat ((Gu.clsL xb ks i.toNat).map vi)))) (fun (gg : Value × Int) => match gg with | (u, i) => 0 ≤ i ∧ i ≤ xs.length) (fun (gg : Value × Int) => match gg with | (u, i) => (xs.length - i).toNat) (hF.sub ⟨rfl, rfl, rfl, rfl, trivial⟩) (by subst hhs0; exact hS) (by exact ⟨Int.le_refl _, by omega⟩) ?_
 clear hF hS; rintro ⟨u, i⟩ a w hfact hF hS
 subst hhs0; (try dsimp only at hfact); (try dsimp only at hF); (try dsimp only at hS)
 obtain ⟨hi0, hi1⟩ := hfact
 replace hS : St _ [] [_, _] _ := hS
 refine wp_seq_k ?_; intro K5 hK5
 refine wp_seq_k ?_; intro K6 hK6
 refine reg hF hS (sq rfl (q_move rfl) <|
   sq rfl (q_fieldAddr ty29 rfl rfl (s' := 0) kQ) <|
   sq rfl (q_ld_blk1 ty22 1 rfl rfl rfl rfl) <|
   sq rfl (q_len_sl ty22 hxs rfl) <|
   sq rfl (q_lti rfl rfl) <|
   sq_end) ?_
 clear hF hS; intro a w hF hS
 refine hK6 _ _ ?_
 clear hK6
 refine wp_ifd hF rfl (fun hc1 => ?_) (fun hc1 => ?_)
 ·refine wp_skip ?_
  refine hK5 _ _ ?_
  clear hK5
  refine wp_seq_k ?_; intro K7 hK7
  refine wp_block ?_
  refine wp_seq_k ?_; intro K8 hK8
  refine reg hF hS (sq rfl (q_assign rfl) <|
    sq_end) ?_
  clear hF hS; intro a w hF hS
  refine hK8 _ _ ?_
  clear hK8
  refine wp_seq_k ?_; intro K9 hK9
  refine wp_block ?_
  obtain ⟨hs0, hhs0, hS⟩ : ∃ h, h = _ ∧ St _ _ h _ := ⟨_, rfl, hS⟩
  refine wp_loopx (γ := Int) (0) (fun (k : Int) => [(7, vi k)]) [(1, _), (2, _), (5, _), (6, _)] (fun (k : Int) => hs0) (fun (k : Int) => 0 ≤ k ∧ k ≤ i ∧ ∀ j, j < k.toNat → (xb.getD j false && decide (ks.getD j [] = ks.getD i.toNat [])) = false) (fun (k : Int) => (i - k).toNat) (hF.sub ⟨rfl, rfl, rfl, rfl, rfl, trivial⟩) (by subst hhs0; exact hS) (by exact ⟨Int.le_refl _, by omega, fun j hj => absurd hj (by simp)⟩) ?_
  clear hF hS; rintro k a w hfact hF hS
  subst hhs0; (try dsimp only at hfact); (try dsimp only at hF); (try dsimp only at hS)
  obtain ⟨hk0, hk1, hkn⟩ := hfact
  replace hS : St _ [] [_, _] _ := hS
  have hki := hk16 i.toNat (by omega)
  have hkk := hk16 k.toNat (by omega)
  refine wp_seq_k ?_; intro K10 hK10
  refine wp_seq_k ?_; intro K11 hK11
  refine regq mixed kQ hS ?_
  refine wpq_seg hF (sq rfl (q_move rfl) <|
    sq rfl (q_move rfl) <|
    sq rfl (q_lti rfl rfl) <|
    sq rfl (q_move rfl) <|
    sq_end) ?_
  clear hF; intro a hF
  refine wpq_andG (q := (!xb.getD k.toNat false || !decide (ks.getD k.toNat [] = ks.getD i.toNat []))) 18 17 hF rfl (by rfl) rfl (by exact trivial) (fun _ => sq_skip 18 rfl rfl rfl rfl <|
    sq_skip 18 rfl rfl rfl rfl <|
    sq_skip 18 rfl rfl rfl rfl <|
    sq_skip 18 rfl rfl rfl rfl <|
    sq_skip 18 rfl rfl rfl rfl <|
    sq_skip 18 rfl rfl rfl rfl <|
    sq_skip 18 rfl rfl rfl rfl <|
    sq_skipu 25 rfl rfl rfl <|
    sq_skipu 25 rfl rfl rfl <|
    sq_skipu 25 rfl rfl rfl <|
    sq_skipu 25 rfl rfl rfl <|
    sq_skipu 25 rfl rfl rfl <|
    sq_skipu 25 rfl rfl rfl <|
    sq_skipu 25 rfl rfl rfl <|
    sq_skipu 25 rfl rfl rfl <|
    sq_skipu 25 rfl rfl rfl <|
    sq_skip 18 rfl rfl rfl rfl <|
    sq_end) rfl (fun hg a hF KG => ?_) ?_
  ·have hg := (by first | exact of_decide_eq_true hg | exact hg)
   refine wpq_seg hF (sq_go 18 rfl rfl rfl (q_fieldAddr ty29 rfl rfl (s' := 0) kQ) <|
     sq_go 18 rfl rfl rfl (q_ld_blk1 ty23 1 rfl rfl rfl rfl) <|
     sq_go 18 rfl rfl rfl (q_move rfl) <|
     sq_go 18 rfl rfl rfl (q_idx_sl ty23 ty4 hxb rfl rfl (by omega)) <|
     sq_go 18 rfl rfl rfl (q_ld_T ty4 hxb zin0 rfl rfl (by omega)) <|
     sq_go 18 rfl rfl rfl (q_not rfl) <|
     sq_go 18 rfl rfl rfl (q_move rfl) <|
     sq_end) ?_
   clear hF; intro a hF
   refine wpq_orP 10 25 9 3 18 hF rfl rfl rfl rfl rfl rfl rfl (fun hg => have hg := hg; sq_go 25 rfl rfl rfl (q_move rfl) <|
     sq_go 25 rfl rfl rfl (q_move rfl) <|
     sq_go 25 rfl rfl rfl (q_idx_sl ty62 ty71 hk rfl rfl (by omega)) <|
     sq_go 25 rfl rfl rfl (q_ld_AB ty71 hk zin0 rfl rfl (by decide) (by omega)) <|
     sq_go 25 rfl rfl rfl (q_move rfl) <|
     sq_go 25 rfl rfl rfl (q_move rfl) <|
     sq_go 25 rfl rfl rfl (q_idx_sl ty62 ty71 hk rfl rfl (by omega)) <|
     sq_go 25 rfl rfl rfl (q_ld_AB ty71 hk zin0 rfl rfl (by decide) (by omega)) <|
     sq_go 25 rfl rfl rfl (q_neAB ty71 ty5 kQ rfl rfl bQ bQ) <|
     sq_end) rfl rfl ?_
   clear hF; intro a hF
   refine wpq_seg hF (sq rfl (q_pick_t rfl rfl) <|
     sq_end) ?_
   clear hF; intro a hF
   exact KG _ (hF.under 8 rfl rfl)
  clear hF; intro a hF
  refine wpq_nil ?_
  clear hS; intro w hS
  refine hK11 _ _ ?_
  clear hK11
  refine wp_if hF rfl (fun hc2 => ?_) (fun hc2 => ?_)
  ·(try simp only [Bool.or_eq_true, Bool.and_eq_true, Bool.or_eq_false_iff, Bool.and_eq_false_iff, decide_eq_true_eq, decide_eq_false_iff_not, Bool.not_eq_true', Bool.not_eq_false'] at hc2)
   have hpk : (xb.getD k.toNat false && decide (ks.getD k.toNat [] = ks.getD i.toNat [])) = false := by
    rcases hc2.2 with h | h
    ·rw [h]; rfl
    ·rw [decide_eq_false h, Bool.and_false]
   refine wp_skip ?_
   refine hK10 _ _ ?_
   clear hK10
   refine wp_block ?_
   refine reg hF hS (sq rfl (q_move rfl) <|
     sq rfl (q_addi rfl rfl (by omega)) <|
     sq rfl (q_assign rfl) <|
     sq_end) ?_
   clear hF hS; intro a w hF hS
   refine ⟨(k + 1), ?_, ?_, hF.sub ⟨rfl, rfl, rfl, rfl, rfl, trivial⟩, ?_⟩
   ·(try dsimp only); omega
   ·refine ⟨by omega, by omega, fun j hj => ?_⟩
    by_cases hjk : j = k.toNat
    ·subst hjk; exact hpk
    ·exact hkn j (by omega)
   ·exact hS
  ·(try simp only [Bool.or_eq_true, Bool.and_eq_true, Bool.or_eq_false_iff, Bool.and_eq_false_iff, decide_eq_true_eq, decide_eq_false_iff_not, Bool.not_eq_true', Bool.not_eq_false'] at hc2)
   have hek : i ≤ k ∨ (xb.getD k.toNat false && decide (ks.getD k.toNat [] = ks.getD i.toNat [])) = true := by rcases hc2 with h | h; exact .inl (by omega); exact .inr (by simp only [Bool.and_eq_true, decide_eq_true_eq]; simpa using h)
   refine wp_exit ?_
   refine hK9 _ _ ?_
   clear hK9
   obtain ⟨hs0, hhs0, hS⟩ : ∃ h, h = _ ∧ St _ _ h _ := ⟨_, rfl, hS⟩
   refine wp_cutx (γ := Int) (fun (c : Int) => [(7, vi c)]) [(1, _), (2, _), (5, _), (6, _)] (fun (c : Int) => hs0) (fun (c : Int) => c = (Gu.clsAt xb ks i.toNat)) (hF.sub ⟨rfl, rfl, rfl, rfl, trivial⟩) hS ?_ ?_
   ·subst hhs0
    refine wp_seq_k ?_; intro K12 hK12
    refine reg hF hS (sq rfl (q_fieldAddr ty29 rfl rfl (s' := 0) kQ) <|
      sq rfl (q_ld_blk1 ty23 1 rfl rfl rfl rfl) <|
      sq rfl (q_move rfl) <|
      sq rfl (q_idx_sl ty23 ty4 hxb rfl rfl (by omega)) <|
      sq rfl (q_ld_T ty4 hxb zin0 rfl rfl (by omega)) <|
      sq rfl (q_not rfl) <|
      sq_end) ?_
    clear hF hS; intro a w hF hS
    refine hK12 _ _ ?_
    clear hK12
    refine wp_if hF rfl (fun hc3 => ?_) (fun hc3 => ?_)
    ·refine reg hF hS (sq rfl (q_assign rfl) <|
       sq_end) ?_
     clear hF hS; intro a w hF hS
     refine ⟨(-1), ?_, hF.sub ⟨rfl, rfl, rfl, rfl, rfl, trivial⟩, ?_⟩
     ·exact (Gu.clsAt_no (by simpa using hc3)).symm
     ·exact hS
    ·refine wp_skip ?_
     refine ⟨(k), ?_, hF.sub ⟨rfl, rfl, rfl, rfl, rfl, trivial⟩, ?_⟩
     ·have := Gu.clsAt_ref (ks := ks) (k := k.toNat) (by simpa using hc3) (by omega) hkn (by rcases hek with h | h; exact .inl (by omega); exact .inr h)
      omega
     ·exact hS
   clear hF hS; rintro c a w hfact hF hS
   subst hhs0; (try dsimp only at hfact); (try dsimp only at hF); (try dsimp only at hS)
   have hcc := hfact
   replace hS : St _ [] [_, _] _ := hS
   have hcr := Gu.clsAt_rng xb ks i.toNat
   refine regl ?_
   refine wpl_sq hF hS (sq rfl (q_move rfl) <|
     sq rfl (q_move rfl) <|
     sq_end) ?_
   clear hF hS; intro a w hF hS
   refine wpl_ef hF hS rfl (ef_bsliceA ty22 ty3 rfl rfl oQ (by decide) rfl rfl) ?_
   clear hF hS; rintro v3 _ _ a w ⟨rfl, rfl⟩ hF hS
   replace hS : St _ [] [_, _, _] _ := hS
   refine wpl_ef hF hS rfl (ef_append ty22 ty3 1 rfl rfl rfl (src_row ty22 (k := 0) rfl oQ) bQ rfl (by decide)) ?_
   clear hF hS; rintro v5 _ _ a w ⟨rfl, rfl⟩ hF hS
   replace hS : St _ [] [_, _, _] _ := hS
   refine wpl_sq hF hS (sq rfl (q_assign rfl) <|
     sq_end) ?_
   clear hF hS; intro a w hF hS
   refine wpList_nil ?_
   refine hK7 _ _ ?_
   clear hK7
   refine reg hF hS (sq rfl (q_move rfl) <|
     sq rfl (q_addi rfl rfl (by omega)) <|
     sq rfl (q_assign rfl) <|
     sq_end) ?_
   clear hF hS; intro a w hF hS
   replace hS := hS.keep zQ (sQ.n)
   refine ⟨(v5, i + 1), ?_, ?_, hF.sub ⟨rfl, rfl, rfl, rfl, trivial⟩, ?_⟩
   ·(try dsimp only); omega
   ·(try dsimp only); omega
   ·exact hS.rowEq (by omega) (by rw [show (i + 1).toNat = i.toNat + 1 by omega, Gu.clsL_succ, List.map_append, ← hcc]; rfl)
 ·obtain rfl : i = xs.length := by omega
  rw [Int.toNat_natCast, ← hq2, Gu.clsL_all] at hS
  replace hS := hS.rowEq (Gu.cls_len xb ks).symm rfl
  have hcl := Gu.cls_len xb ks
  refine wp_exit ?_
  refine hK3 _ _ ?_
  clear hK3
  refine wp_seq_k ?_; intro K13 hK13
  refine reg hF hS (sq rfl (q_move rfl) <|
    sq rfl (q_assign rfl) <|
    sq_end) ?_
  clear hF hS; intro a w hF hS
  refine hK13 _ _ ?_
  clear hK13
  refine wp_ret ?_
  obtain ⟨zr, hzr, hS⟩ := St.freezeV (f := vi) (p := fun x => -9223372036854775808 ≤ x ∧ x ≤ 9223372036854775807) hS rfl (by first | omega | (simp; omega)) (fun x hx => Gu.cls_rng (by omega) x hx)
  exact fn_ret (rs := [.tmp 4]) rfl hF hS (vs := [_]) ⟨rfl, trivial⟩ (zs' := [_]) (hs' := []) (List.singleton_sublist.2 (by simp)) zQ (sr_of ⟨_, hzr, rfl, rfl⟩ (rfl))

set_option maxRecDepth 4000 in
set_option maxHeartbeats 2000000 in
theorem sameP_ct (a1 b1 c1 a2 b2 c2 : Value) (S F : List Int) (B : List Bool) (S2 F2 : List Int) (B2 : List Bool) (w : World) (hs : Sl encI (ph w) a1 S) (hf : Sl encI (ph w) b1 F) (hb : Sl encT (ph w) c1 B) (hs2 : Sl encI (ph w) a2 S2) (hf2 : Sl encI (ph w) b2 F2) (hb2 : Sl encT (ph w) c2 B2) : Ct Try.prog 39 [.agg [a1, b1, c1].toArray, .agg [a2, b2, c2].toArray] w (fun r _ _ => r = .bool (decide ((S = S2 ∧ F = F2) ∧ B = B2))) := by
 refine fn_enter Try.func39 rfl Try.ntmps39 (Nat.le_of_ble_eq_true rfl) fun a hF hS => ?_
 have hla := hb.1
 have hlb := hb2.1
 refine wp_seq_k ?_; intro K1 hK1
 refine regl ?_
 refine wpl_ef hF hS rfl (ef_boxA rfl) ?_
 clear hF hS; rintro _ _ _ a w ⟨b1, rfl, rfl, rfl⟩ hF hS
 refine wpl_ef hF hS rfl (ef_boxA rfl) ?_
 clear hF hS; rintro _ _ _ a w ⟨b2, rfl, rfl, rfl⟩ hF hS
 refine wpl_sq hF hS (sq rfl (q_assign rfl) <|
   sq_end) ?_
 clear hF hS; intro a w hF hS
 refine wpList_nil ?_
 refine hK1 _ _ ?_
 clear hK1
 refine wp_seq_k ?_; intro K2 hK2
 refine wp_seq_k ?_; intro K3 hK3
 refine regl ?_
 refine wpl_sq hF hS (sq rfl (q_fieldAddr ty67 rfl rfl (s' := 0) kQ) <|
   sq rfl (q_ld_blk1 ty22 1 rfl rfl rfl rfl) <|
   sq rfl (q_fieldAddr ty67 rfl rfl (s' := 0) kQ) <|
   sq rfl (q_ld_blk1 ty22 0 rfl rfl rfl rfl) <|
   sq rfl (q_call fn18 rfl (fun w hS => samei_ct _ _ _ _ w (Sl.mono (hS.le zin0) hs) (Sl.mono (hS.le zin0) hs2)) (fun _ _ _ h => h)) <|
   sq rfl (q_not rfl) <|
   sq rfl (q_move rfl) <|
   sq_end) ?_
 clear hF hS; intro a w hF hS
 refine wpl_or 6 12 6 hF hS rfl rfl rfl rfl rfl (fun hg => have hg := (nd_false hg); sq_go 12 rfl rfl rfl (q_fieldAddr ty67 rfl rfl (s' := 0) kQ) <|
   sq_go 12 rfl rfl rfl (q_ld_blk1 ty22 1 rfl rfl rfl rfl) <|
   sq_go 12 rfl rfl rfl (q_fieldAddr ty67 rfl rfl (s' := 0) kQ) <|
   sq_go 12 rfl rfl rfl (q_ld_blk1 ty22 0 rfl rfl rfl rfl) <|
   sq_go 12 rfl rfl rfl (q_call fn18 rfl (fun w hS => samei_ct _ _ _ _ w (Sl.mono (hS.le zin0) hf) (Sl.mono (hS.le zin0) hf2)) (fun _ _ _ h => h)) <|
   sq_go 12 rfl rfl rfl (q_not rfl) <|
   sq_end) rfl rfl ?_
 clear hF hS; intro a w hF hS
 refine wpl_sq hF hS (sq rfl (q_move rfl) <|
   sq_end) ?_
 clear hF hS; intro a w hF hS
 refine wpl_or 14 20 7 hF hS rfl rfl rfl rfl rfl (fun hg => have hg := hg; sq_go 20 rfl rfl rfl (q_fieldAddr ty67 rfl rfl (s' := 0) kQ) <|
   sq_go 20 rfl rfl rfl (q_ld_blk1 ty23 1 rfl rfl rfl rfl) <|
   sq_go 20 rfl rfl rfl (q_len_sl ty23 hb rfl) <|
   sq_go 20 rfl rfl rfl (q_fieldAddr ty67 rfl rfl (s' := 0) kQ) <|
   sq_go 20 rfl rfl rfl (q_ld_blk1 ty23 0 rfl rfl rfl rfl) <|
   sq_go 20 rfl rfl rfl (q_len_sl ty23 hb2 rfl) <|
   sq_go 20 rfl rfl rfl (q_nei rfl rfl) <|
   sq_end) rfl rfl ?_
 clear hF hS; intro a w hF hS
 refine wpList_nil ?_
 refine hK3 _ _ ?_
 clear hK3
 refine wp_if hF rfl (fun hc1 => ?_) (fun hc1 => ?_)
 ·(try simp only [Bool.or_eq_true, Bool.and_eq_true, Bool.or_eq_false_iff, Bool.and_eq_false_iff, decide_eq_true_eq, decide_eq_false_iff_not, Bool.not_eq_true', Bool.not_eq_false'] at hc1)
  refine wp_seq_k ?_; intro K4 hK4
  refine reg hF hS (sq rfl (q_assign rfl) <|
    sq_end) ?_
  clear hF hS; intro a w hF hS
  refine hK4 _ _ ?_
  clear hK4
  refine wp_ret ?_
  exact fn_ret (rs := [.tmp 4]) rfl hF hS (vs := [_]) ⟨rfl, trivial⟩ zQ zQ (by rw [decide_eq_false]; rintro ⟨⟨h1, h2⟩, h3⟩; rcases hc1 with (h | h) | h; exact h h1; exact h h2; exact h (by rw [h3]))
 ·(try simp only [Bool.or_eq_true, Bool.and_eq_true, Bool.or_eq_false_iff, Bool.and_eq_false_iff, decide_eq_true_eq, decide_eq_false_iff_not, Bool.not_eq_true', Bool.not_eq_false'] at hc1)
  refine wp_skip ?_
  refine hK2 _ _ ?_
  clear hK2
  refine wp_seq_k ?_; intro K5 hK5
  refine wp_seq_k ?_; intro K6 hK6
  refine reg hF hS (sq rfl (q_assign rfl) <|
    sq_end) ?_
  clear hF hS; intro a w hF hS
  refine hK6 _ _ ?_
  clear hK6
  refine wp_block ?_
  obtain ⟨hs0, hhs0, hS⟩ : ∃ h, h = _ ∧ St _ _ h _ := ⟨_, rfl, hS⟩
  refine wp_loopx (γ := Int) (0) (fun (i : Int) => [(5, vi i)]) [(2, _), (3, _)] (fun (i : Int) => hs0) (fun (i : Int) => 0 ≤ i ∧ i ≤ B.length ∧ B.take i.toNat = B2.take i.toNat) (fun (i : Int) => (B.length - i).toNat) (hF.sub ⟨rfl, rfl, rfl, trivial⟩) (by subst hhs0; exact hS) (by exact ⟨Int.le_refl _, by omega, by simp⟩) ?_
  clear hF hS; rintro i a w hfact hF hS
  subst hhs0; (try dsimp only at hfact); (try dsimp only at hF); (try dsimp only at hS)
  obtain ⟨hi0, hi1, htk⟩ := hfact
  replace hS : St _ [] [_, _] _ := hS
  refine wp_seq_k ?_; intro K7 hK7
  refine wp_seq_k ?_; intro K8 hK8
  refine reg hF hS (sq rfl (q_move rfl) <|
    sq rfl (q_fieldAddr ty67 rfl rfl (s' := 0) kQ) <|
    sq rfl (q_ld_blk1 ty23 1 rfl rfl rfl rfl) <|
    sq rfl (q_len_sl ty23 hb rfl) <|
    sq rfl (q_lti rfl rfl) <|
    sq_end) ?_
  clear hF hS; intro a w hF hS
  refine hK8 _ _ ?_
  clear hK8
  refine wp_ifd hF rfl (fun hc2 => ?_) (fun hc2 => ?_)
  ·refine wp_skip ?_
   refine hK7 _ _ ?_
   clear hK7
   refine wp_seq_k ?_; intro K9 hK9
   refine wp_block ?_
   refine wp_seq_k ?_; intro K10 hK10
   refine regd mixed kQ hF hS (sq rfl (q_fieldAddr ty67 rfl rfl (s' := 0) kQ) <|
     sq rfl (q_ld_blk1 ty23 1 rfl rfl rfl rfl) <|
     sq rfl (q_move rfl) <|
     sq rfl (q_idx_sl ty23 ty4 hb rfl rfl (by omega)) <|
     sq rfl (q_ld_T ty4 hb zin0 rfl rfl (by omega)) <|
     sq rfl (q_fieldAddr ty67 rfl rfl (s' := 0) kQ) <|
     sq rfl (q_ld_blk1 ty23 0 rfl rfl rfl rfl) <|
     sq rfl (q_move rfl) <|
     sq rfl (q_idx_sl ty23 ty4 hb2 rfl rfl (by omega)) <|
     sq rfl (q_ld_T ty4 hb2 zin0 rfl rfl (by omega)) <|
     sq rfl (q_net ty4 rfl rfl) <|
     sq_end) ?_
   clear hF hS; intro a w hF hS
   refine hK10 _ _ ?_
   clear hK10
   refine wp_if hF rfl (fun hc3 => ?_) (fun hc3 => ?_)
   ·refine wp_seq_k ?_; intro K11 hK11
    refine reg hF hS (sq rfl (q_assign rfl) <|
      sq_end) ?_
    clear hF hS; intro a w hF hS
    refine hK11 _ _ ?_
    clear hK11
    refine wp_ret ?_
    exact fn_ret (rs := [.tmp 4]) rfl hF hS (vs := [_]) ⟨rfl, trivial⟩ zQ zQ (by rw [decide_eq_false]; intro h; have := hc3; rw [h.2] at this; simp at this)
   ·refine wp_skip ?_
    refine hK9 _ _ ?_
    clear hK9
    refine reg hF hS (sq rfl (q_move rfl) <|
      sq rfl (q_addi rfl rfl (by omega)) <|
      sq rfl (q_assign rfl) <|
      sq_end) ?_
    clear hF hS; intro a w hF hS
    refine ⟨(i + 1), ?_, ?_, hF.sub ⟨rfl, rfl, rfl, trivial⟩, ?_⟩
    ·(try dsimp only); omega
    ·exact ⟨by omega, by omega, Ls.same_step false hi0 (by omega) hc1.2 (by simpa using hc3) htk⟩
    ·exact hS
  ·refine wp_exit ?_
   refine hK5 _ _ ?_
   clear hK5
   refine wp_seq_k ?_; intro K12 hK12
   refine reg hF hS (sq rfl (q_assign rfl) <|
     sq_end) ?_
   clear hF hS; intro a w hF hS
   refine hK12 _ _ ?_
   clear hK12
   refine wp_ret ?_
   exact fn_ret (rs := [.tmp 4]) rfl hF hS (vs := [_]) ⟨rfl, trivial⟩ zQ zQ (by rw [decide_eq_true]; exact ⟨hc1.1, by have := htk; rw [List.take_of_length_le (by omega), List.take_of_length_le (by omega)] at this; exact this⟩)

set_option maxRecDepth 4000 in
set_option maxHeartbeats 2000000 in
theorem rprove_ct (xN xS xB : Value) (xs : List Int) (xb : List Bool) (v : Value) (ks : List (List UInt8)) (v2 : Value) (bs : List Bool) (hl : xs.length < 1048576) (w : World) (hxn : xN.oneCell' = true) (hxs : Sl encI (ph w) xS xs) (hxb : Sl encT (ph w) xB xb) (hk : Sl (encA 16) (ph w) v ks) (hb : Sl encT (ph w) v2 bs) : Ct Try.prog 38 [.agg [xN, xS, xB].toArray, v, v2] w (PrR (Gu.pv xs xb ks bs)) := by
 refine fn_enter Try.func38 rfl Try.ntmps38 (Nat.le_of_ble_eq_true rfl) fun a hF hS => ?_
 have hsl := hxs.1
 have htl := hxb.1
 have hkl := hk.1
 have hbl := hb.1
 refine wp_seq_k ?_; intro K1 hK1
 refine regl ?_
 refine wpl_ef hF hS rfl (ef_boxA rfl) ?_
 clear hF hS; rintro _ _ _ a w ⟨b1, rfl, rfl, rfl⟩ hF hS
 refine wpl_ef hF hS rfl (ef_allocA ty67) ?_
 clear hF hS; rintro _ _ _ a w ⟨b2, rfl, rfl, rfl⟩ hF hS
 refine wpl_sq hF hS (sq rfl (q_assign rfl) <|
   sq_end) ?_
 clear hF hS; intro a w hF hS
 refine wpList_nil ?_
 refine hK1 _ _ ?_
 clear hK1
 refine wp_seq_k ?_; intro K2 hK2
 refine regl ?_
 refine wpl_sq hF hS (sq rfl (q_ld_blkW ty29 1 rfl rfl bQ rfl) <|
   sq rfl (q_move rfl) <|
   sq_end) ?_
 clear hF hS; intro a w hF hS
 refine wpl_ef hF hS rfl (ef_call fn15 rfl (fun w hS => rguilty_ct _ _ _ _ _ _ _ (by first | with_reducible assumption | omega) w hxn (Sl.mono (hS.le zin0) hxs) (Sl.mono (hS.le zin0) hxb) (Sl.mono (hS.le zin0) hb))) ?_
 clear hF hS; rintro _ _ _ a w ⟨_, _, rfl, rfl, ⟨v4, z5, hz6, rfl, rfl, rfl⟩⟩ hF hS
 replace hS : St _ [_] [_, _] _ := hS
 refine wpl_sq hF hS (sq rfl (q_move rfl) <|
   sq rfl (q_extract rfl rfl) <|
   sq rfl (q_extract rfl rfl) <|
   sq rfl (q_assign rfl) <|
   sq rfl (q_assign rfl) <|
   sq_end) ?_
 clear hF hS; intro a w hF hS
 refine wpList_nil ?_
 refine hK2 _ _ ?_
 clear hK2
 refine wp_seq_k ?_; intro K3 hK3
 refine wp_seq_k ?_; intro K4 hK4
 refine reg hF hS (sq rfl (q_move rfl) <|
   sq rfl (q_nei rfl rfl) <|
   sq_end) ?_
 clear hF hS; intro a w hF hS
 refine hK4 _ _ ?_
 clear hK4
 refine wp_ifn hF rfl (fun hc1 => ?_) (fun hc1 => ?_)
 ·have hft := Gu.ge_ne hc1
  have hg1 : Gu.ge xs xb bs = 1 := by unfold Gu.ge; rw [hft]; rfl
  rw [hg1] at hF
  refine wp_seq_k ?_; intro K5 hK5
  refine regl ?_
  refine wpl_sq hF hS (sq rfl (q_buildP (places := [(0, 1), (1, 1), (2, 1)]) (cells := [.slice none 0 0, .slice none 0 0, .slice none 0 0]) ty67 kQ rfl (by rfl)) <|
    sq rfl (q_move rfl) <|
    sq_end) ?_
  clear hF hS; intro a w hF hS
  refine wpl_ef hF hS rfl (ef_storeW ty67 0 rfl rfl rfl rfl bQ (oc_cons rfl (oc_cons rfl (oc_cons rfl oc_nil))) bQ) ?_
  clear hF hS; rintro _ _ _ a w ⟨rfl, rfl, rfl⟩ hF hS
  replace hS : St _ [_] [_, _] _ := hS
  refine wpl_sq hF hS (sq rfl (q_assign rfl) <|
    sq_end) ?_
  clear hF hS; intro a w hF hS
  refine wpList_nil ?_
  refine hK5 _ _ ?_
  clear hK5
  refine wp_ret ?_
  replace hS := hS.zone00
  exact fn_ret (rs := [.cell 6 67, .tmp 7]) rfl hF hS (vs := [_, _]) ⟨⟨_, _, _, _, _, _, _, rfl, List.mem_of_getElem? (i := 0) rfl, ty67, .inl ⟨rfl, bQ, rfl⟩⟩, rfl, trivial⟩ (zs' := [fun _ => none]) (hs' := []) (List.singleton_sublist.2 (by simp)) zQ (pr_of (x := ([], [], [], 1)) ⟨_, _, _, _, rfl, sl_nil, sl_nil, sl_nil, rfl, rfl⟩ (Gu.pv_1 hft))
 ·have hft := Gu.ge_eq hc1
  have hfu := Gu.fits_use hft
  refine wp_skip ?_
  refine hK3 _ _ ?_
  clear hK3
  refine wp_seq_k ?_; intro K6 hK6
  refine wp_seq_k ?_; intro K7 hK7
  refine reg hF hS (sq rfl (q_move rfl) <|
    sq rfl (q_len_sl ty62 hk rfl) <|
    sq rfl (q_fieldAddr ty29 rfl rfl (s' := 0) kQ) <|
    sq rfl (q_ld_blk1 ty22 1 rfl rfl rfl rfl) <|
    sq rfl (q_len_sl ty22 hxs rfl) <|
    sq rfl (q_nei rfl rfl) <|
    sq_end) ?_
  clear hF hS; intro a w hF hS
  refine hK7 _ _ ?_
  clear hK7
  refine wp_ifn hF rfl (fun hc2 => ?_) (fun hc2 => ?_)
  ·refine wp_seq_k ?_; intro K8 hK8
   refine regl ?_
   refine wpl_sq hF hS (sq rfl (q_buildP (places := [(0, 1), (1, 1), (2, 1)]) (cells := [.slice none 0 0, .slice none 0 0, .slice none 0 0]) ty67 kQ rfl (by rfl)) <|
     sq_end) ?_
   clear hF hS; intro a w hF hS
   refine wpl_ef hF hS rfl (ef_storeW ty67 0 rfl rfl rfl rfl bQ (oc_cons rfl (oc_cons rfl (oc_cons rfl oc_nil))) bQ) ?_
   clear hF hS; rintro _ _ _ a w ⟨rfl, rfl, rfl⟩ hF hS
   replace hS : St _ [_] [_, _] _ := hS
   refine wpl_sq hF hS (sq rfl (q_assign rfl) <|
     sq_end) ?_
   clear hF hS; intro a w hF hS
   refine wpList_nil ?_
   refine hK8 _ _ ?_
   clear hK8
   refine wp_ret ?_
   replace hS := hS.zone00
   exact fn_ret (rs := [.cell 6 67, .tmp 7]) rfl hF hS (vs := [_, _]) ⟨⟨_, _, _, _, _, _, _, rfl, List.mem_of_getElem? (i := 0) rfl, ty67, .inl ⟨rfl, bQ, rfl⟩⟩, rfl, trivial⟩ (zs' := [fun _ => none]) (hs' := []) (List.singleton_sublist.2 (by simp)) zQ (pr_of (x := ([], [], [], 1)) ⟨_, _, _, _, rfl, sl_nil, sl_nil, sl_nil, rfl, rfl⟩ (Gu.pv_2 hft hc2))
  ·have hcl := Gu.cls_len xb ks
   have hgl := Gu.gl_len xs xb bs
   refine wp_skip ?_
   refine hK6 _ _ ?_
   clear hK6
   refine wp_seq_k ?_; intro K9 hK9
   refine regl ?_
   refine wpl_sq hF hS (sq rfl (q_ld_blkW ty29 1 rfl rfl bQ rfl) <|
     sq rfl (q_move rfl) <|
     sq_end) ?_
   clear hF hS; intro a w hF hS
   refine wpl_ef hF hS rfl (ef_call fn72 rfl (fun w hS => rclasses_ct _ _ _ _ _ _ _ (by first | with_reducible assumption | omega) (by omega) (by omega) w hxn (Sl.mono (hS.le zin0) hxs) (Sl.mono (hS.le zin0) hxb) (Sl.mono (hS.le zin0) hk))) ?_
   clear hF hS; rintro v7 _ _ a w ⟨_, _, rfl, rfl, ⟨z8, hz9, rfl, rfl⟩⟩ hF hS
   replace hS : St _ [_, _] [_, _] _ := hS
   refine wpl_sq hF hS (sq rfl (q_assign rfl) <|
     sq_end) ?_
   clear hF hS; intro a w hF hS
   refine wpList_nil ?_
   refine hK9 _ _ ?_
   clear hK9
   refine wp_seq_k ?_; intro K10 hK10
   refine wp_seq_k ?_; intro K11 hK11
   refine reg hF hS (sq rfl (q_assign rfl) <|
     sq_end) ?_
   clear hF hS; intro a w hF hS
   refine hK11 _ _ ?_
   clear hK11
   refine wp_block ?_
   obtain ⟨hs0, hhs0, hS⟩ : ∃ h, h = _ ∧ St _ _ h _ := ⟨_, rfl, hS⟩
   refine wp_loopx (γ := Int) (0) (fun (i : Int) => [(11, vi i)]) [(2, _), (6, _), (8, _), (10, _)] (fun (i : Int) => hs0) (fun (i : Int) => 0 ≤ i ∧ i ≤ (Gu.cls xb ks).length ∧ ∀ j, j < i.toNat → Gu.dif xb ks bs j = false) (fun (i : Int) => ((Gu.cls xb ks).length - i).toNat) (hF.sub ⟨rfl, rfl, rfl, rfl, rfl, trivial⟩) (by subst hhs0; exact hS) (by exact ⟨Int.le_refl _, by omega, fun j hj => absurd hj (by simp)⟩) ?_
   clear hF hS; rintro i a w hfact hF hS
   subst hhs0; (try dsimp only at hfact); (try dsimp only at hF); (try dsimp only at hS)
   obtain ⟨hi0, hi1, hno⟩ := hfact
   replace hS : St _ [_, _] [_, _] _ := hS
   refine wp_seq_k ?_; intro K12 hK12
   refine wp_seq_k ?_; intro K13 hK13
   refine reg hF hS (sq rfl (q_move rfl) <|
     sq rfl (q_move rfl) <|
     sq rfl (q_len_sl ty22 hz9 rfl) <|
     sq rfl (q_lti rfl rfl) <|
     sq_end) ?_
   clear hF hS; intro a w hF hS
   refine hK13 _ _ ?_
   clear hK13
   refine wp_ifd hF rfl (fun hc3 => ?_) (fun hc3 => ?_)
   ·have hcr := Gu.clsAt_rng xb ks i.toNat
    have hce : (Gu.cls xb ks).getD i.toNat 0 = (Gu.clsAt xb ks i.toNat) := Gu.cls_get (by omega)
    refine wp_skip ?_
    refine hK12 _ _ ?_
    clear hK12
    refine wp_seq_k ?_; intro K14 hK14
    refine wp_block ?_
    refine wp_seq_k ?_; intro K15 hK15
    refine regq mixed kQ hS ?_
    refine wpq_seg hF (sq rfl (q_move rfl) <|
      sq rfl (q_move rfl) <|
      sq rfl (q_idx_sl ty22 ty3 hz9 rfl rfl (by omega)) <|
      sq rfl (q_ld_I ty3 hz9 (.inr (by simp)) rfl rfl (by omega)) <|
      sq rfl (q_gei rfl rfl) <|
      sq rfl (q_move rfl) <|
      sq_end) ?_
    clear hF; intro a hF
    refine wpq_and 5 43 12 hF rfl rfl rfl rfl rfl (fun hg => have hg := (by first | exact of_decide_eq_true hg | exact hg); sq_go 43 rfl rfl rfl (q_move rfl) <|
      sq_go 43 rfl rfl rfl (q_move rfl) <|
      sq_go 43 rfl rfl rfl (q_move rfl) <|
      sq_go 43 rfl rfl rfl (q_idx_sl ty22 ty3 hz9 rfl rfl (by omega)) <|
      sq_go 43 rfl rfl rfl (q_ld_I ty3 hz9 (.inr (by simp)) rfl rfl (by omega)) <|
      sq_go 43 rfl rfl rfl (q_idx_sl ty23 ty4 hb rfl rfl (by omega)) <|
      sq_go 43 rfl rfl rfl (q_ld_T ty4 hb zin0 rfl rfl (by omega)) <|
      sq_go 43 rfl rfl rfl (q_move rfl) <|
      sq_go 43 rfl rfl rfl (q_move rfl) <|
      sq_go 43 rfl rfl rfl (q_idx_sl ty23 ty4 hb rfl rfl (by omega)) <|
      sq_go 43 rfl rfl rfl (q_ld_T ty4 hb zin0 rfl rfl (by omega)) <|
      sq_go 43 rfl rfl rfl (q_net ty4 rfl rfl) <|
      sq_end) rfl rfl ?_
    clear hF; intro a hF
    refine wpq_nil ?_
    clear hS; intro w hS
    refine hK15 _ _ ?_
    clear hK15
    refine wp_if hF rfl (fun hc4 => ?_) (fun hc4 => ?_)
    ·(try simp only [Bool.or_eq_true, Bool.and_eq_true, Bool.or_eq_false_iff, Bool.and_eq_false_iff, decide_eq_true_eq, decide_eq_false_iff_not, Bool.not_eq_true', Bool.not_eq_false'] at hc4)
     have hdf := Gu.dif_t (xb := xb) (ks := ks) (bs := bs) (i := i.toNat) (by omega) hc4
     refine wp_seq_k ?_; intro K16 hK16
     refine regl ?_
     refine wpl_sq hF hS (sq rfl (q_buildP (places := [(0, 1), (1, 1), (2, 1)]) (cells := [.slice none 0 0, .slice none 0 0, .slice none 0 0]) ty67 kQ rfl (by rfl)) <|
       sq_end) ?_
     clear hF hS; intro a w hF hS
     refine wpl_ef hF hS rfl (ef_storeW ty67 0 rfl rfl rfl rfl bQ (oc_cons rfl (oc_cons rfl (oc_cons rfl oc_nil))) bQ) ?_
     clear hF hS; rintro _ _ _ a w ⟨rfl, rfl, rfl⟩ hF hS
     replace hS : St _ [_, _] [_, _] _ := hS
     refine wpl_sq hF hS (sq rfl (q_assign rfl) <|
       sq_end) ?_
     clear hF hS; intro a w hF hS
     refine wpList_nil ?_
     refine hK16 _ _ ?_
     clear hK16
     refine wp_ret ?_
     replace hS := hS.zone00
     exact fn_ret (rs := [.cell 6 67, .tmp 7]) rfl hF hS (vs := [_, _]) ⟨⟨_, _, _, _, _, _, _, rfl, List.mem_of_getElem? (i := 0) rfl, ty67, .inl ⟨rfl, bQ, rfl⟩⟩, rfl, trivial⟩ (zs' := [fun _ => none]) (hs' := []) (List.singleton_sublist.2 (by simp)) zQ (pr_of (x := ([], [], [], 16)) ⟨_, _, _, _, rfl, sl_nil, sl_nil, sl_nil, rfl, rfl⟩ (Gu.pv_3 hft hc2 (by omega) hdf))
    ·(try simp only [Bool.or_eq_true, Bool.and_eq_true, Bool.or_eq_false_iff, Bool.and_eq_false_iff, decide_eq_true_eq, decide_eq_false_iff_not, Bool.not_eq_true', Bool.not_eq_false'] at hc4)
     have hdf := Gu.dif_f (xb := xb) (ks := ks) (bs := bs) (i := i.toNat) (by omega) hc4
     refine wp_skip ?_
     refine hK14 _ _ ?_
     clear hK14
     refine reg hF hS (sq rfl (q_move rfl) <|
       sq rfl (q_addi rfl rfl (by omega)) <|
       sq rfl (q_assign rfl) <|
       sq_end) ?_
     clear hF hS; intro a w hF hS
     refine ⟨(i + 1), ?_, ?_, hF.sub ⟨rfl, rfl, rfl, rfl, rfl, trivial⟩, ?_⟩
     ·(try dsimp only); omega
     ·refine ⟨by omega, by omega, fun j hj => ?_⟩
      by_cases hji : j = i.toNat
      ·subst hji; exact hdf
      ·exact hno j (by omega)
     ·exact hS
   ·refine wp_exit ?_
    refine hK10 _ _ ?_
    clear hK10
    refine wp_seq_k ?_; intro K17 hK17
    refine regl ?_
    refine wpl_sq hF hS (sq rfl (q_move rfl) <|
      sq rfl (q_move rfl) <|
      sq_end) ?_
    clear hF hS; intro a w hF hS
    refine wpl_ef hF hS rfl (ef_bslice0 ty23 ty4) ?_
    clear hF hS; rintro v10 _ _ a w ⟨rfl, rfl⟩ hF hS
    replace hS : St _ [_, _] [_, _, _] _ := hS
    refine wpl_sq hF hS (sq rfl (q_move rfl) <|
      sq_end) ?_
    clear hF hS; intro a w hF hS
    refine wpl_ef hF hS rfl (ef_append ty23 ty4 0 rfl rfl rfl (src_slV ty23 hb zin0) bQ rfl (by decide)) ?_
    clear hF hS; rintro v12 _ _ a w ⟨rfl, rfl⟩ hF hS
    replace hS : St _ [_, _] [_, _, _] _ := hS
    refine wpl_sq hF hS (sq rfl (q_buildS1 ty67 3 kQ rfl rfl (oc_cons (sl_one' hz6) (oc_cons (sl_one' hz9) (oc_cons (row_one (hS.own _ (List.mem_of_getElem? (i := 0) rfl)).1) oc_nil))) rfl rfl) <|
      sq_end) ?_
    clear hF hS; intro a w hF hS
    refine wpl_ef hF hS rfl (ef_storeW ty67 1 rfl rfl rfl rfl bQ (oc_cons (sl_one' hz6) (oc_cons (sl_one' hz9) (oc_cons (row_one (hS.own _ (List.mem_of_getElem? (i := 0) rfl)).1) oc_nil))) bQ) ?_
    clear hF hS; rintro _ _ _ a w ⟨rfl, rfl, rfl⟩ hF hS
    replace hS : St _ [_, _] [_, _, _] _ := hS
    refine wpl_sq hF hS (sq rfl (q_assign rfl) <|
      sq_end) ?_
    clear hF hS; intro a w hF hS
    refine wpList_nil ?_
    refine hK17 _ _ ?_
    clear hK17
    refine wp_ret ?_
    obtain ⟨zb9, hzb9, hS⟩ := St.freezeV (h0 := fun _ => rfl) (f := vt) (p := fun _ => True) (xs := bs) (hS.rowEq (Nat.zero_add _) (List.nil_append _)) rfl (by omega) (fun _ _ => trivial)
    obtain ⟨zu, hzu, hS⟩ := hS.union
    exact fn_ret (rs := [.cell 6 67, .tmp 7]) rfl hF hS (vs := [_, _]) ⟨⟨_, _, _, _, _, _, _, rfl, List.mem_of_getElem? (i := 0) rfl, ty67, .inl ⟨rfl, bQ, rfl⟩⟩, rfl, trivial⟩ (zs' := [zu]) (hs' := []) (List.singleton_sublist.2 (by simp)) zQ (pr_of (x := (Gu.gl xs xb bs, Gu.cls xb ks, bs, 0)) ⟨_, _, _, zu, rfl, Sl.mono (hzu _ (by simp)) hz6, Sl.mono (hzu _ (by simp)) hz9, hzb9.mono (hzu _ (by simp)), rfl, rfl⟩ (Gu.pv_4 hft hc2 (fun j hj => hno j (by omega))))

set_option maxRecDepth 4000 in
set_option maxHeartbeats 2000000 in
theorem rcheck_ct (xN xS xB : Value) (xs : List Int) (xb : List Bool) (v : Value) (ks : List (List UInt8)) (v2 : Value) (K : List Int) (a b c : Value) (S F : List Int) (B : List Bool) (hl : xs.length < 1048576) (w : World) (hxn : xN.oneCell' = true) (hxs : Sl encI (ph w) xS xs) (hxb : Sl encT (ph w) xB xb) (hk : Sl (encA 16) (ph w) v ks) (hn : Sl encI (ph w) v2 K) (hs : Sl encI (ph w) a S) (hf : Sl encI (ph w) b F) (hb : Sl encT (ph w) c B) : Ct Try.prog 45 [.agg [xN, xS, xB].toArray, v, v2, .agg [a, b, c].toArray] w (fun r _ _ => r = vi (Gu.chk xs xb ks K S F B)) := by
 refine fn_enter Try.func45 rfl Try.ntmps45 (Nat.le_of_ble_eq_true rfl) fun a hF hS => ?_
 have hsl := hxs.1
 have htl := hxb.1
 have hkl := hk.1
 have hnl := hn.1
 have hbl := hb.1
 refine wp_seq_k ?_; intro K1 hK1
 refine regl ?_
 refine wpl_ef hF hS rfl (ef_boxA rfl) ?_
 clear hF hS; rintro _ _ _ a w ⟨b1, rfl, rfl, rfl⟩ hF hS
 refine wpl_ef hF hS rfl (ef_boxA rfl) ?_
 clear hF hS; rintro _ _ _ a w ⟨b2, rfl, rfl, rfl⟩ hF hS
 refine wpl_sq hF hS (sq rfl (q_assign rfl) <|
   sq_end) ?_
 clear hF hS; intro a w hF hS
 refine wpList_nil ?_
 refine hK1 _ _ ?_
 clear hK1
 refine wp_seq_k ?_; intro K2 hK2
 refine reg hF hS (sq rfl (q_fieldAddr ty29 rfl rfl (s' := 0) kQ) <|
   sq rfl (q_ld_blk1 ty22 1 rfl rfl rfl rfl) <|
   sq rfl (q_len_sl ty22 hxs rfl) <|
   sq rfl (q_assign rfl) <|
   sq_end) ?_
 clear hF hS; intro a w hF hS
 refine hK2 _ _ ?_
 clear hK2
 refine wp_seq_k ?_; intro K3 hK3
 refine wp_seq_k ?_; intro K4 hK4
 refine regl ?_
 refine wpl_sq hF hS (sq rfl (q_fieldAddr ty29 rfl rfl (s' := 0) kQ) <|
   sq rfl (q_ld_blk1 ty23 1 rfl rfl rfl rfl) <|
   sq rfl (q_len_sl ty23 hxb rfl) <|
   sq rfl (q_move rfl) <|
   sq rfl (q_nei rfl rfl) <|
   sq rfl (q_move rfl) <|
   sq_end) ?_
 clear hF hS; intro a w hF hS
 refine wpl_or 5 24 4 hF hS rfl rfl rfl rfl rfl (fun hg => have hg := (nd_false hg); sq_go 24 rfl rfl rfl (q_move rfl) <|
   sq_go 24 rfl rfl rfl (q_len_sl ty62 hk rfl) <|
   sq_go 24 rfl rfl rfl (q_move rfl) <|
   sq_go 24 rfl rfl rfl (q_nei rfl rfl) <|
   sq_end) rfl rfl ?_
 clear hF hS; intro a w hF hS
 refine wpl_sq hF hS (sq rfl (q_move rfl) <|
   sq_end) ?_
 clear hF hS; intro a w hF hS
 refine wpl_or 11 30 4 hF hS rfl rfl rfl rfl rfl (fun hg => have hg := hg; sq_go 30 rfl rfl rfl (q_move rfl) <|
   sq_go 30 rfl rfl rfl (q_len_sl ty22 hn rfl) <|
   sq_go 30 rfl rfl rfl (q_move rfl) <|
   sq_go 30 rfl rfl rfl (q_nei rfl rfl) <|
   sq_end) rfl rfl ?_
 clear hF hS; intro a w hF hS
 refine wpList_nil ?_
 refine hK4 _ _ ?_
 clear hK4
 refine wp_if hF rfl (fun hc1 => ?_) (fun hc1 => ?_)
 ·(try simp only [Bool.or_eq_true, Bool.and_eq_true, Bool.or_eq_false_iff, Bool.and_eq_false_iff, decide_eq_true_eq, decide_eq_false_iff_not, Bool.not_eq_true', Bool.not_eq_false'] at hc1)
  refine wp_seq_k ?_; intro K5 hK5
  refine reg hF hS (sq rfl (q_assign rfl) <|
    sq_end) ?_
  clear hF hS; intro a w hF hS
  refine hK5 _ _ ?_
  clear hK5
  refine wp_ret ?_
  exact fn_ret (rs := [.tmp 8]) rfl hF hS (vs := [_]) ⟨rfl, trivial⟩ zQ zQ (by rw [Gu.chk_1 (fun h => by omega)])
 ·(try simp only [Bool.or_eq_true, Bool.and_eq_true, Bool.or_eq_false_iff, Bool.and_eq_false_iff, decide_eq_true_eq, decide_eq_false_iff_not, Bool.not_eq_true', Bool.not_eq_false'] at hc1)
  have hcl := Gu.cls_len xb ks
  have hgl := Gu.gl_len xs xb B
  refine wp_skip ?_
  refine hK3 _ _ ?_
  clear hK3
  refine wp_seq_k ?_; intro K6 hK6
  refine wp_seq_k ?_; intro K7 hK7
  refine reg hF hS (sq rfl (q_assign rfl) <|
    sq_end) ?_
  clear hF hS; intro a w hF hS
  refine hK7 _ _ ?_
  clear hK7
  refine wp_block ?_
  obtain ⟨hs0, hhs0, hS⟩ : ∃ h, h = _ ∧ St _ _ h _ := ⟨_, rfl, hS⟩
  refine wp_loopx (γ := Int) (0) (fun (i : Int) => [(10, vi i)]) [(1, _), (2, _), (4, _), (7, _), (9, _)] (fun (i : Int) => hs0) (fun (i : Int) => 0 ≤ i ∧ i ≤ xs.length ∧ ∀ j, j < i.toNat → Gu.ckm (K.getD j 0) = false) (fun (i : Int) => (xs.length - i).toNat) (hF.sub ⟨rfl, rfl, rfl, rfl, rfl, rfl, trivial⟩) (by subst hhs0; exact hS) (by exact ⟨Int.le_refl _, by omega, fun j hj => absurd hj (by simp)⟩) ?_
  clear hF hS; rintro i a w hfact hF hS
  subst hhs0; (try dsimp only at hfact); (try dsimp only at hF); (try dsimp only at hS)
  obtain ⟨hi0, hi1, hkm⟩ := hfact
  replace hS : St _ [] [_, _] _ := hS
  refine wp_seq_k ?_; intro K8 hK8
  refine wp_seq_k ?_; intro K9 hK9
  refine reg hF hS (sq rfl (q_move rfl) <|
    sq rfl (q_move rfl) <|
    sq rfl (q_lti rfl rfl) <|
    sq_end) ?_
  clear hF hS; intro a w hF hS
  refine hK9 _ _ ?_
  clear hK9
  refine wp_ifd hF rfl (fun hc2 => ?_) (fun hc2 => ?_)
  ·refine wp_skip ?_
   refine hK8 _ _ ?_
   clear hK8
   refine wp_seq_k ?_; intro K10 hK10
   refine wp_block ?_
   refine wp_seq_k ?_; intro K11 hK11
   refine regl ?_
   refine wpl_sq hF hS (sq rfl (q_move rfl) <|
     sq rfl (q_move rfl) <|
     sq rfl (q_idx_sl ty22 ty3 hn rfl rfl (by omega)) <|
     sq rfl (q_ld_I ty3 hn zin0 rfl rfl (by omega)) <|
     sq rfl (q_lti rfl rfl) <|
     sq rfl (q_move rfl) <|
     sq_end) ?_
   clear hF hS; intro a w hF hS
   refine wpl_or 5 46 5 hF hS rfl rfl rfl rfl rfl (fun hg => have hg := (by first | exact of_decide_eq_false hg | exact hg); sq_go 46 rfl rfl rfl (q_move rfl) <|
     sq_go 46 rfl rfl rfl (q_move rfl) <|
     sq_go 46 rfl rfl rfl (q_idx_sl ty22 ty3 hn rfl rfl (by omega)) <|
     sq_go 46 rfl rfl rfl (q_ld_I ty3 hn zin0 rfl rfl (by omega)) <|
     sq_go 46 rfl rfl rfl (q_gti rfl rfl) <|
     sq_end) rfl rfl ?_
   clear hF hS; intro a w hF hS
   refine wpList_nil ?_
   refine hK11 _ _ ?_
   clear hK11
   refine wp_if hF rfl (fun hc3 => ?_) (fun hc3 => ?_)
   ·(try simp only [Bool.or_eq_true, Bool.and_eq_true, Bool.or_eq_false_iff, Bool.and_eq_false_iff, decide_eq_true_eq, decide_eq_false_iff_not, Bool.not_eq_true', Bool.not_eq_false'] at hc3)
    refine wp_seq_k ?_; intro K12 hK12
    refine reg hF hS (sq rfl (q_assign rfl) <|
      sq_end) ?_
    clear hF hS; intro a w hF hS
    refine hK12 _ _ ?_
    clear hK12
    refine wp_ret ?_
    exact fn_ret (rs := [.tmp 8]) rfl hF hS (vs := [_]) ⟨rfl, trivial⟩ zQ zQ (by rw [Gu.chk_1 (fun h => by have := Gu.ckm_any (K := K) (by omega) hi0 hc3; rw [h.2] at this; cases this)])
   ·(try simp only [Bool.or_eq_true, Bool.and_eq_true, Bool.or_eq_false_iff, Bool.and_eq_false_iff, decide_eq_true_eq, decide_eq_false_iff_not, Bool.not_eq_true', Bool.not_eq_false'] at hc3)
    refine wp_skip ?_
    refine hK10 _ _ ?_
    clear hK10
    refine reg hF hS (sq rfl (q_move rfl) <|
      sq rfl (q_addi rfl rfl (by omega)) <|
      sq rfl (q_assign rfl) <|
      sq_end) ?_
    clear hF hS; intro a w hF hS
    refine ⟨(i + 1), ?_, ?_, hF.sub ⟨rfl, rfl, rfl, rfl, rfl, rfl, trivial⟩, ?_⟩
    ·(try dsimp only); omega
    ·refine ⟨by omega, by omega, fun j hj => ?_⟩
     by_cases hji : j = i.toNat
     ·subst hji; exact Gu.ckm_f (by omega)
     ·exact hkm j (by omega)
    ·exact hS
  ·have hq : (xb.length = xs.length ∧ ks.length = xs.length ∧ K.length = xs.length) ∧ K.any Gu.ckm = false := ⟨⟨by omega, by omega, by omega⟩, Gu.ckm_none (fun j hj => hkm j (by omega))⟩
   refine wp_exit ?_
   refine hK6 _ _ ?_
   clear hK6
   refine wp_seq_k ?_; intro K13 hK13
   refine regl ?_
   refine wpl_sq hF hS (sq rfl (q_ld_blkW ty29 1 rfl rfl bQ rfl) <|
     sq rfl (q_fieldAddr ty67 rfl rfl (s' := 0) kQ) <|
     sq rfl (q_ld_blk1 ty23 0 rfl rfl rfl rfl) <|
     sq_end) ?_
   clear hF hS; intro a w hF hS
   refine wpl_ef hF hS rfl (ef_call fn15 rfl (fun w hS => rguilty_ct _ _ _ _ _ _ _ (by first | with_reducible assumption | omega) w hxn (Sl.mono (hS.le zin0) hxs) (Sl.mono (hS.le zin0) hxb) (Sl.mono (hS.le zin0) hb))) ?_
   clear hF hS; rintro _ _ _ a w ⟨_, _, rfl, rfl, ⟨v4, z5, hz6, rfl, rfl, rfl⟩⟩ hF hS
   replace hS : St _ [_] [_, _] _ := hS
   refine wpl_sq hF hS (sq rfl (q_move rfl) <|
     sq rfl (q_extract rfl rfl) <|
     sq rfl (q_extract rfl rfl) <|
     sq rfl (q_assign rfl) <|
     sq rfl (q_assign rfl) <|
     sq_end) ?_
   clear hF hS; intro a w hF hS
   refine wpList_nil ?_
   refine hK13 _ _ ?_
   clear hK13
   refine wp_seq_k ?_; intro K14 hK14
   refine regl ?_
   refine wpl_sq hF hS (sq rfl (q_ld_blkW ty29 1 rfl rfl bQ rfl) <|
     sq rfl (q_move rfl) <|
     sq_end) ?_
   clear hF hS; intro a w hF hS
   refine wpl_ef hF hS rfl (ef_call fn72 rfl (fun w hS => rclasses_ct _ _ _ _ _ _ _ (by first | with_reducible assumption | omega) (by omega) (by omega) w hxn (Sl.mono (hS.le zin0) hxs) (Sl.mono (hS.le zin0) hxb) (Sl.mono (hS.le zin0) hk))) ?_
   clear hF hS; rintro v7 _ _ a w ⟨_, _, rfl, rfl, ⟨z8, hz9, rfl, rfl⟩⟩ hF hS
   replace hS : St _ [_, _] [_, _] _ := hS
   refine wpl_sq hF hS (sq rfl (q_assign rfl) <|
     sq_end) ?_
   clear hF hS; intro a w hF hS
   refine wpList_nil ?_
   refine hK14 _ _ ?_
   clear hK14
   refine wp_seq_k ?_; intro K15 hK15
   refine wp_seq_k ?_; intro K16 hK16
   refine regl ?_
   refine wpl_sq hF hS (sq rfl (q_move rfl) <|
     sq rfl (q_nei rfl rfl) <|
     sq rfl (q_move rfl) <|
     sq_end) ?_
   clear hF hS; intro a w hF hS
   refine wpl_or 2 65 5 hF hS rfl rfl rfl rfl rfl (fun hg => have hg := (nd_false hg); sq_go 65 rfl rfl rfl (q_move rfl) <|
     sq_go 65 rfl rfl rfl (q_fieldAddr ty67 rfl rfl (s' := 0) kQ) <|
     sq_go 65 rfl rfl rfl (q_ld_blk1 ty22 0 rfl rfl rfl rfl) <|
     sq_go 65 rfl rfl rfl (q_call fn18 rfl (fun w hS => samei_ct _ _ _ _ w (Sl.mono (hS.le (.inr (by simp))) hz6) (Sl.mono (hS.le zin0) hs)) (fun _ _ _ h => h)) <|
     sq_go 65 rfl rfl rfl (q_not rfl) <|
     sq_end) rfl rfl ?_
   clear hF hS; intro a w hF hS
   refine wpl_sq hF hS (sq rfl (q_move rfl) <|
     sq_end) ?_
   clear hF hS; intro a w hF hS
   refine wpl_or 9 72 5 hF hS rfl rfl rfl rfl rfl (fun hg => have hg := hg; sq_go 72 rfl rfl rfl (q_move rfl) <|
     sq_go 72 rfl rfl rfl (q_fieldAddr ty67 rfl rfl (s' := 0) kQ) <|
     sq_go 72 rfl rfl rfl (q_ld_blk1 ty22 0 rfl rfl rfl rfl) <|
     sq_go 72 rfl rfl rfl (q_call fn18 rfl (fun w hS => samei_ct _ _ _ _ w (Sl.mono (hS.le (.inr (by simp))) hz9) (Sl.mono (hS.le zin0) hf)) (fun _ _ _ h => h)) <|
     sq_go 72 rfl rfl rfl (q_not rfl) <|
     sq_end) rfl rfl ?_
   clear hF hS; intro a w hF hS
   refine wpList_nil ?_
   refine hK16 _ _ ?_
   clear hK16
   refine wp_if hF rfl (fun hc4 => ?_) (fun hc4 => ?_)
   ·(try simp only [Bool.or_eq_true, Bool.and_eq_true, Bool.or_eq_false_iff, Bool.and_eq_false_iff, decide_eq_true_eq, decide_eq_false_iff_not, Bool.not_eq_true', Bool.not_eq_false'] at hc4)
    refine wp_seq_k ?_; intro K17 hK17
    refine reg hF hS (sq rfl (q_assign rfl) <|
      sq_end) ?_
    clear hF hS; intro a w hF hS
    refine hK17 _ _ ?_
    clear hK17
    refine wp_ret ?_
    exact fn_ret (rs := [.tmp 8]) rfl hF hS (vs := [_]) ⟨rfl, trivial⟩ zQ zQ (by rw [Gu.chk_2 hq (fun h => by obtain ⟨⟨e1, e2⟩, e3⟩ := h; rcases hc4 with (h | h) | h; exact h e1; exact h e2; exact h e3)])
   ·(try simp only [Bool.or_eq_true, Bool.and_eq_true, Bool.or_eq_false_iff, Bool.and_eq_false_iff, decide_eq_true_eq, decide_eq_false_iff_not, Bool.not_eq_true', Bool.not_eq_false'] at hc4)
    have hfu := Gu.fits_use (Gu.ge_eq hc4.1.1)
    refine wp_skip ?_
    refine hK15 _ _ ?_
    clear hK15
    refine wp_seq_k ?_; intro K18 hK18
    refine wp_seq_k ?_; intro K19 hK19
    refine reg hF hS (sq rfl (q_assign rfl) <|
      sq_end) ?_
    clear hF hS; intro a w hF hS
    refine hK19 _ _ ?_
    clear hK19
    refine wp_block ?_
    obtain ⟨hs0, hhs0, hS⟩ : ∃ h, h = _ ∧ St _ _ h _ := ⟨_, rfl, hS⟩
    refine wp_loopx (γ := Int) (0) (fun (i : Int) => [(14, vi i)]) [(2, _), (7, _), (9, _), (13, _)] (fun (i : Int) => hs0) (fun (i : Int) => 0 ≤ i ∧ i ≤ xs.length ∧ ∀ j, j < i.toNat → Gu.ckd xb ks K B j = false) (fun (i : Int) => (xs.length - i).toNat) (hF.sub ⟨rfl, rfl, rfl, rfl, rfl, trivial⟩) (by subst hhs0; exact hS) (by exact ⟨Int.le_refl _, by omega, fun j hj => absurd hj (by simp)⟩) ?_
    clear hF hS; rintro i a w hfact hF hS
    subst hhs0; (try dsimp only at hfact); (try dsimp only at hF); (try dsimp only at hS)
    obtain ⟨hi0, hi1, hno⟩ := hfact
    replace hS : St _ [_, _] [_, _] _ := hS
    refine wp_seq_k ?_; intro K20 hK20
    refine wp_seq_k ?_; intro K21 hK21
    refine reg hF hS (sq rfl (q_move rfl) <|
      sq rfl (q_move rfl) <|
      sq rfl (q_lti rfl rfl) <|
      sq_end) ?_
    clear hF hS; intro a w hF hS
    refine hK21 _ _ ?_
    clear hK21
    refine wp_ifd hF rfl (fun hc5 => ?_) (fun hc5 => ?_)
    ·have hcr := Gu.clsAt_rng xb ks i.toNat
     have hce : ((Gu.cls xb ks).getD i.toNat 0) = Gu.clsAt xb ks i.toNat := Gu.cls_get (by omega)
     refine wp_skip ?_
     refine hK20 _ _ ?_
     clear hK20
     refine wp_seq_k ?_; intro K22 hK22
     refine wp_block ?_
     refine wp_seq_k ?_; intro K23 hK23
     refine reg hF hS (sq rfl (q_assign rfl) <|
       sq_end) ?_
     clear hF hS; intro a w hF hS
     refine hK23 _ _ ?_
     clear hK23
     obtain ⟨hs0, hhs0, hS⟩ : ∃ h, h = _ ∧ St _ _ h _ := ⟨_, rfl, hS⟩
     refine wp_cutx (γ := Int) (fun (wt : Int) => [(15, vi wt)]) [(2, _), (7, _), (9, _), (13, _), (14, _)] (fun (wt : Int) => hs0) (fun (wt : Int) => wt = (if B.getD i.toNat false = true then 2 else 1)) (hF.sub ⟨rfl, rfl, rfl, rfl, rfl, trivial⟩) hS ?_ ?_
     ·subst hhs0
      refine wp_seq_k ?_; intro K24 hK24
      refine reg hF hS (sq rfl (q_fieldAddr ty67 rfl rfl (s' := 0) kQ) <|
        sq rfl (q_ld_blk1 ty23 0 rfl rfl rfl rfl) <|
        sq rfl (q_move rfl) <|
        sq rfl (q_idx_sl ty23 ty4 hb rfl rfl (by omega)) <|
        sq rfl (q_ld_T ty4 hb zin0 rfl rfl (by omega)) <|
        sq_end) ?_
      clear hF hS; intro a w hF hS
      refine hK24 _ _ ?_
      clear hK24
      refine wp_if hF rfl (fun hc6 => ?_) (fun hc6 => ?_)
      ·refine reg hF hS (sq rfl (q_assign rfl) <|
         sq_end) ?_
       clear hF hS; intro a w hF hS
       refine ⟨(2), ?_, hF.sub ⟨rfl, rfl, rfl, rfl, rfl, rfl, trivial⟩, ?_⟩
       ·exact (if_pos hc6).symm
       ·exact hS
      ·refine wp_skip ?_
       refine ⟨(1), ?_, hF.sub ⟨rfl, rfl, rfl, rfl, rfl, rfl, trivial⟩, ?_⟩
       ·exact (if_neg (by rw [hc6]; decide)).symm
       ·exact hS
     clear hF hS; rintro wt a w hfact hF hS
     subst hhs0; (try dsimp only at hfact); (try dsimp only at hF); (try dsimp only at hS)
     have hwt := hfact
     replace hS : St _ [_, _] [_, _] _ := hS
     refine wp_seq_k ?_; intro K25 hK25
     refine regl ?_
     refine wpl_sq hF hS (sq rfl (q_move rfl) <|
       sq rfl (q_move rfl) <|
       sq rfl (q_idx_sl ty22 ty3 hz9 rfl rfl (by omega)) <|
       sq rfl (q_ld_I ty3 hz9 (.inr (by simp)) rfl rfl (by omega)) <|
       sq rfl (q_gei rfl rfl) <|
       sq rfl (q_move rfl) <|
       sq_end) ?_
     clear hF hS; intro a w hF hS
     refine wpl_and 5 94 10 hF hS rfl rfl rfl rfl rfl (fun hg => have hg := (by first | exact of_decide_eq_true hg | exact hg); sq_go 94 rfl rfl rfl (q_move rfl) <|
       sq_go 94 rfl rfl rfl (q_move rfl) <|
       sq_go 94 rfl rfl rfl (q_move rfl) <|
       sq_go 94 rfl rfl rfl (q_idx_sl ty22 ty3 hz9 rfl rfl (by omega)) <|
       sq_go 94 rfl rfl rfl (q_ld_I ty3 hz9 (.inr (by simp)) rfl rfl (by omega)) <|
       sq_go 94 rfl rfl rfl (q_max rfl rfl) <|
       sq_go 94 rfl rfl rfl (q_idx_sl ty22 ty3 hn rfl rfl (by omega)) <|
       sq_go 94 rfl rfl rfl (q_ld_I ty3 hn zin0 rfl rfl (by omega)) <|
       sq_go 94 rfl rfl rfl (q_move rfl) <|
       sq_go 94 rfl rfl rfl (q_nei rfl rfl) <|
       sq_end) rfl rfl ?_
     clear hF hS; intro a w hF hS
     refine wpList_nil ?_
     refine hK25 _ _ ?_
     clear hK25
     refine wp_if hF rfl (fun hc7 => ?_) (fun hc7 => ?_)
     ·(try simp only [Bool.or_eq_true, Bool.and_eq_true, Bool.or_eq_false_iff, Bool.and_eq_false_iff, decide_eq_true_eq, decide_eq_false_iff_not, Bool.not_eq_true', Bool.not_eq_false'] at hc7)
      have hdf := Gu.ckd_rt (by omega) hwt hc7 (Gu.ckm_at hq.2 (by omega))
      refine wp_seq_k ?_; intro K26 hK26
      refine reg hF hS (sq rfl (q_assign rfl) <|
        sq_end) ?_
      clear hF hS; intro a w hF hS
      refine hK26 _ _ ?_
      clear hK26
      refine wp_ret ?_
      exact fn_ret (rs := [.tmp 8]) rfl hF hS (vs := [_]) ⟨rfl, trivial⟩ zQ zQ (by rw [Gu.chk_3 hq hc4 (by omega) hdf])
     ·(try simp only [Bool.or_eq_true, Bool.and_eq_true, Bool.or_eq_false_iff, Bool.and_eq_false_iff, decide_eq_true_eq, decide_eq_false_iff_not, Bool.not_eq_true', Bool.not_eq_false'] at hc7)
      have hdf := Gu.ckd_rf (by omega) hwt hc7
      refine wp_skip ?_
      refine hK22 _ _ ?_
      clear hK22
      refine reg hF hS (sq rfl (q_move rfl) <|
        sq rfl (q_addi rfl rfl (by omega)) <|
        sq rfl (q_assign rfl) <|
        sq_end) ?_
      clear hF hS; intro a w hF hS
      refine ⟨(i + 1), ?_, ?_, hF.sub ⟨rfl, rfl, rfl, rfl, rfl, trivial⟩, ?_⟩
      ·(try dsimp only); omega
      ·refine ⟨by omega, by omega, fun j hj => ?_⟩
       by_cases hji : j = i.toNat
       ·subst hji; exact hdf
       ·exact hno j (by omega)
      ·exact hS
    ·refine wp_exit ?_
     refine hK18 _ _ ?_
     clear hK18
     refine wp_seq_k ?_; intro K27 hK27
     refine reg hF hS (sq rfl (q_assign rfl) <|
       sq_end) ?_
     clear hF hS; intro a w hF hS
     refine hK27 _ _ ?_
     clear hK27
     refine wp_ret ?_
     exact fn_ret (rs := [.tmp 8]) rfl hF hS (vs := [_]) ⟨rfl, trivial⟩ zQ zQ (by rw [Gu.chk_4 hq hc4 (fun j hj => hno j (by omega))])
end Go.Proofs.Ytcbjemjohacbpaa
