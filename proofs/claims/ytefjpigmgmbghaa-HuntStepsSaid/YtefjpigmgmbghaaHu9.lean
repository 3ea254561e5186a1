/- A text of a proof over this seat: walks over the program's functions and the plain laws that they need. -/
import Derived.Test.YtefjpigmgmbghaaHu8
import Derived.Test.YtefjpigmgmbghaaHpA
import Derived.Test.YtefjpigmgmbghaaFwD
import Derived.Test.YtefjpigmgmbghaaFwB
set_option linter.all false
namespace Go.Proofs.Ytefjpigmgmbghaa
open Go.Fw
theorem fn70 : FnOk Try.prog 70 := ⟨_, Try.func70, rfl, by kernel_rfl⟩
theorem fn72 : FnOk Try.prog 72 := ⟨_, Try.func72, rfl, by kernel_rfl⟩

set_option maxRecDepth 4000 in
set_option maxHeartbeats 2000000 in
theorem line1_ct (i : Int) (e1 : Nat) (kV mV : Value) (ks : List (List UInt8)) (ms : List Int) (hi : 0 ≤ i ∧ i < ms.length) (w : World) (hb1 : w.heap[e1]? = some (.cells [kV, mV].toArray 38 (0, 0))) (hk : Sl (encA 16) (ph w) kV ks) (hm : Sl encI (ph w) mV ms) : Ct Try.prog 72 [vi i, .pointer (some ⟨e1, 0, none⟩)] w (fun r _ _ => r = .bool (Hu.mk2 ms i)) := by
 refine fn_enter Try.func72 rfl Try.ntmps72 (Nat.le_of_ble_eq_true rfl) fun a hF hS => ?_
 have hml := hm.1
 refine wp_seq_k ?_; intro K1 hK1
 refine reg hF hS (sq rfl (q_assign rfl) <|
   sq_end) ?_
 clear hF hS; intro a w hF hS
 refine hK1 _ _ ?_
 clear hK1
 refine wp_seq_k ?_; intro K2 hK2
 refine reg hF hS (sq rfl (q_fieldAddr ty38 rfl rfl (s' := 0) kQ) <|
   sq rfl (q_ld_old1 ty22 rfl hb1 rfl rfl) <|
   sq rfl (q_move rfl) <|
   sq rfl (q_idx_sl ty22 ty3 hm rfl rfl (by omega)) <|
   sq rfl (q_ld_I ty3 hm zin0 rfl rfl (by omega)) <|
   sq rfl (q_eqi rfl rfl) <|
   sq rfl (q_assign rfl) <|
   sq_end) ?_
 clear hF hS; intro a w hF hS
 refine hK2 _ _ ?_
 clear hK2
 refine wp_ret ?_
 exact fn_ret (rs := [.tmp 3]) rfl hF hS (vs := [_]) ⟨rfl, trivial⟩ zQ zQ (rfl)

set_option maxRecDepth 4000 in
set_option maxHeartbeats 2000000 in
theorem line_ct (xN xS xB : Value) (xs : List Int) (xb : List Bool) (kV mV : Value) (ks : List (List UInt8)) (ms : List Int) (v : Value) (p : List Int) (hl : xs.length < 1048576) (hpl : p.length < 1048576) (w : World) (hxn : xN.oneCell' = true) (hxs : Sl encI (ph w) xS xs) (hxb : Sl encT (ph w) xB xb) (hk : Sl (encA 16) (ph w) kV ks) (hm : Sl encI (ph w) mV ms) (hp : Sl encI (ph w) v p) : Ct Try.prog 41 [.agg [xN, xS, xB].toArray, .agg [kV, mV].toArray, v] w (fun r _ _ => r = Hu.lnV (Hu.lnR xs xb ks ms p)) := by
 refine fn_enter Try.func41 rfl Try.ntmps41 (Nat.le_of_ble_eq_true rfl) fun a hF hS => ?_
 have hsl := hxs.1
 have htl := hxb.1
 have hml := hm.1
 have hkl := hk.1
 have hpl9 := hp.1
 refine wp_seq_k ?_; intro K1 hK1
 refine regl ?_
 refine wpl_ef hF hS rfl (ef_boxA rfl) ?_
 clear hF hS; rintro _ _ _ a w ⟨b1, rfl, rfl, rfl⟩ hF hS
 refine wpl_ef hF hS rfl (ef_boxA rfl) ?_
 clear hF hS; rintro _ _ _ a w ⟨b2, rfl, rfl, rfl⟩ hF hS
 refine wpl_sq hF hS (sq rfl (q_assign rfl) <|
   sq rfl (q_assign rfl) <|
   sq rfl (q_assign rfl) <|
   sq_end) ?_
 clear hF hS; intro a w hF hS
 refine wpList_nil ?_
 refine hK1 _ _ ?_
 clear hK1
 refine wp_seq_k ?_; intro K2 hK2
 refine wp_seq_k ?_; intro K3 hK3
 refine regl ?_
 refine wpl_sq hF hS (sq rfl (q_ld_blkW ty42 1 rfl rfl bQ rfl) <|
   sq rfl (q_ld_blkW ty38 0 rfl rfl bQ rfl) <|
   sq rfl (q_call fn54 rfl (fun w hS => fits_ct _ _ _ _ _ _ _ _ _ w hxn (Sl.mono (hS.le zin0) hxs) (Sl.mono (hS.le zin0) hxb) (Sl.mono (hS.le zin0) hk) (Sl.mono (hS.le zin0) hm)) (fun _ _ _ h => h)) <|
   sq rfl (q_not rfl) <|
   sq rfl (q_move rfl) <|
   sq_end) ?_
 clear hF hS; intro a w hF hS
 refine wpl_or 4 22 3 hF hS rfl rfl rfl rfl rfl (fun hg => have hg := hg; sq_go 22 rfl rfl rfl (q_move rfl) <|
   sq_go 22 rfl rfl rfl (q_len_sl ty22 hp rfl) <|
   sq_go 22 rfl rfl rfl (q_lti rfl rfl) <|
   sq_end) rfl rfl ?_
 clear hF hS; intro a w hF hS
 refine wpList_nil ?_
 refine hK3 _ _ ?_
 clear hK3
 refine wp_if hF rfl (fun hc1 => ?_) (fun hc1 => ?_)
 ·(try simp only [Bool.or_eq_true, Bool.and_eq_true, Bool.or_eq_false_iff, Bool.and_eq_false_iff, decide_eq_true_eq, decide_eq_false_iff_not, Bool.not_eq_true', Bool.not_eq_false'] at hc1)
  refine wp_seq_k ?_; intro K4 hK4
  refine reg hF hS (sq rfl (q_assign rfl) <|
    sq rfl (q_assign rfl) <|
    sq rfl (q_assign rfl) <|
    sq_end) ?_
  clear hF hS; intro a w hF hS
  refine hK4 _ _ ?_
  clear hK4
  refine wp_ret ?_
  exact fn_ret (rs := [.tmp 6, .tmp 7, .tmp 8]) rfl hF hS (vs := [_, _, _]) ⟨rfl, rfl, rfl, trivial⟩ zQ zQ (by rw [Hu.lnR_1 hc1]; rfl)
 ·(try simp only [Bool.or_eq_true, Bool.and_eq_true, Bool.or_eq_false_iff, Bool.and_eq_false_iff, decide_eq_true_eq, decide_eq_false_iff_not, Bool.not_eq_true', Bool.not_eq_false'] at hc1)
  have hfu := Hu.fit_use hc1.1
  refine wp_skip ?_
  refine hK2 _ _ ?_
  clear hK2
  refine wp_seq_k ?_; intro K5 hK5
  refine reg hF hS (sq rfl (q_assign rfl) <|
    sq_end) ?_
  clear hF hS; intro a w hF hS
  replace hS := hS.nilRow 3 1
  refine hK5 _ _ ?_
  clear hK5
  refine wp_seq_k ?_; intro K6 hK6
  refine wp_seq_k ?_; intro K7 hK7
  refine reg hF hS (sq rfl (q_move rfl) <|
    sq rfl (q_len_sl ty22 hp rfl) <|
    sq rfl (q_move rfl) <|
    sq_end) ?_
  clear hF hS; intro a w hF hS
  refine hK7 _ _ ?_
  clear hK7
  refine wp_block ?_
  obtain ⟨hs0, hhs0, hS⟩ : ∃ h, h = _ ∧ St _ _ h _ := ⟨_, rfl, hS⟩
  refine wp_loopx (γ := Value × Int) ((Value.slice none 0 0), 0) (fun (gg : Value × Int) => match gg with | (u, i) => [(9, u), (29, vi i)]) [(2, _), (3, _), (4, _), (27, _), (28, _)] (fun (gg : Value × Int) => match gg with | (u, i) => (hs0.set 0 (.row u 3 1 i.toNat ((Hu.ats xs (p.take i.toNat)).map vi)))) (fun (gg : Value × Int) => match gg with | (u, i) => 0 ≤ i ∧ i ≤ p.length) (fun (gg : Value × Int) => match gg with | (u, i) => (p.length - i).toNat) (hF.sub ⟨rfl, rfl, rfl, rfl, rfl, rfl, rfl, trivial⟩) (by subst hhs0; exact hS) (by exact ⟨Int.le_refl _, by omega⟩) ?_
  clear hF hS; rintro ⟨u, i⟩ a w hfact hF hS
  subst hhs0; (try dsimp only at hfact); (try dsimp only at hF); (try dsimp only at hS)
  obtain ⟨hi0, hi1⟩ := hfact
  replace hS : St _ [] [_, _, _] _ := hS
  refine wp_seq_k ?_; intro K8 hK8
  refine reg hF hS (sq rfl (q_lti rfl rfl) <|
    sq_end) ?_
  clear hF hS; intro a w hF hS
  refine hK8 _ _ ?_
  clear hK8
  refine wp_seq_k ?_; intro K9 hK9
  refine wp_ifd hF rfl (fun hc2 => ?_) (fun hc2 => ?_)
  ·refine wp_skip ?_
   refine hK9 _ _ ?_
   clear hK9
   refine wp_seq_k ?_; intro K10 hK10
   refine wp_block ?_
   refine wp_seq_k ?_; intro K11 hK11
   refine reg hF hS (sq rfl (q_idx_sl ty22 ty3 hp rfl rfl (by omega)) <|
     sq rfl (q_ld_I ty3 hp zin0 rfl rfl (by omega)) <|
     sq rfl (q_assign rfl) <|
     sq_end) ?_
   clear hF hS; intro a w hF hS
   refine hK11 _ _ ?_
   clear hK11
   refine regl ?_
   refine wpl_sq hF hS (sq rfl (q_move rfl) <|
     sq rfl (q_fieldAddr ty42 rfl rfl (s' := 0) kQ) <|
     sq rfl (q_ld_blk1 ty22 2 rfl rfl rfl rfl) <|
     sq rfl (q_move rfl) <|
     sq rfl (q_call fn55 rfl (fun w hS => ix_ct _ _ _ w (Sl.mono (hS.le zin0) hxs)) (fun _ _ _ h => h)) <|
     sq_end) ?_
   clear hF hS; intro a w hF hS
   refine wpl_ef hF hS rfl (ef_bsliceA ty22 ty3 rfl rfl oQ (by decide) rfl rfl) ?_
   clear hF hS; rintro v4 _ _ a w ⟨rfl, rfl⟩ hF hS
   replace hS : St _ [] [_, _, _, _] _ := hS
   refine wpl_ef hF hS rfl (ef_append ty22 ty3 1 rfl rfl rfl (src_row ty22 (k := 0) rfl oQ) bQ rfl (by decide)) ?_
   clear hF hS; rintro v6 _ _ a w ⟨rfl, rfl⟩ hF hS
   replace hS : St _ [] [_, _, _, _] _ := hS
   refine wpl_sq hF hS (sq rfl (q_assign rfl) <|
     sq_end) ?_
   clear hF hS; intro a w hF hS
   refine wpList_nil ?_
   refine hK10 _ _ ?_
   clear hK10
   refine reg hF hS (sq rfl (q_addi rfl rfl (by omega)) <|
     sq rfl (q_move rfl) <|
     sq_end) ?_
   clear hF hS; intro a w hF hS
   replace hS := hS.keep zQ (sQ.n)
   refine ⟨(v6, i + 1), ?_, ?_, hF.sub ⟨rfl, rfl, rfl, rfl, rfl, rfl, rfl, trivial⟩, ?_⟩
   ·(try dsimp only); omega
   ·(try dsimp only); omega
   ·dsimp only; rw [Hu.ats_snoc ⟨hi0, by omega⟩, List.map_append, show (i + 1).toNat = i.toNat + 1 by omega]; exact hS
  ·obtain rfl : i = p.length := by omega
   rw [Int.toNat_natCast, List.take_length] at hS
   obtain ⟨Aa, hAa⟩ : ∃ A, A = Hu.ats xs p := ⟨_, rfl⟩
   have hAl : Aa.length = p.length := by rw [hAa, Hu.ats_len]
   rw [← hAa] at hS
   replace hS := hS.rowEq hAl.symm rfl
   have hArg : ∀ x ∈ Aa, -9223372036854775808 ≤ x ∧ x ≤ 9223372036854775807 := by rw [hAa]; exact Hu.ats_rg (by omega)
   refine wp_exit ?_
   refine hK6 _ _ ?_
   clear hK6
   refine wp_seq_k ?_; intro K12 hK12
   refine wp_seq_k ?_; intro K13 hK13
   refine reg hF hS (sq rfl (q_move rfl) <|
     sq rfl (q_call fn70 rfl (fun w hS => cont_ct _ _ _ w (own_slV (hS.own _ (List.mem_of_getElem? (i := 0) rfl)).1 (by first | assumption | (simp; done)) (by first | rfl | (simp; done) | (simp; omega) | omega) (by first | omega | (simp; omega)))) (fun _ _ _ h => h)) <|
     sq_end) ?_
   clear hF hS; intro a w hF hS
   refine hK13 _ _ ?_
   clear hK13
   refine wp_ifd hF rfl (fun hc3 => ?_) (fun hc3 => ?_)
   ·refine wp_seq_k ?_; intro K14 hK14
    refine reg hF hS (sq rfl (q_assign rfl) <|
      sq rfl (q_assign rfl) <|
      sq rfl (q_assign rfl) <|
      sq_end) ?_
    clear hF hS; intro a w hF hS
    refine hK14 _ _ ?_
    clear hK14
    refine wp_ret ?_
    exact fn_ret (rs := [.tmp 6, .tmp 7, .tmp 8]) rfl hF hS (vs := [_, _, _]) ⟨rfl, rfl, rfl, trivial⟩ zQ zQ (by rw [Hu.lnR_6 hc1 (hAa ▸ hc3)]; rfl)
   ·have hA9 : ∀ x ∈ Aa, 0 ≤ x ∧ x < xs.length := by rw [hAa]; exact Hu.ats_all (by rw [← hAa]; exact hc3)
    have hAg : ∀ k, k < Aa.length → 0 ≤ Aa.getD k 0 ∧ Aa.getD k 0 < xs.length := fun k hk9 => hA9 _ (getD_mem hk9)
    have hAg0 := hAg (Int.toNat 0) (by show 0 < Aa.length; omega)
    have hAg1 := hAg ((Aa.length : Int) - 1).toNat (by omega)
    refine wp_skip ?_
    refine hK12 _ _ ?_
    clear hK12
    refine wp_seq_k ?_; intro K15 hK15
    refine wp_seq_k ?_; intro K16 hK16
    refine regq mixed kQ hS ?_
    refine wpq_seg hF (sq rfl (q_fieldAddr ty38 rfl rfl (s' := 0) kQ) <|
      sq rfl (q_ld_blk1 ty22 1 rfl rfl rfl rfl) <|
      sq rfl (q_move rfl) <|
      sq rfl (q_idx_row ty22 ty3 0 rfl rfl rfl (by omega)) <|
      sq rfl (q_ld_rowM ty3 0 (0 : Int) rfl rfl bQ rfl) <|
      sq rfl (q_idx_sl ty22 ty3 hm rfl rfl (by omega)) <|
      sq rfl (q_ld_I ty3 hm zin0 rfl rfl (by omega)) <|
      sq rfl (q_nei rfl rfl) <|
      sq rfl (q_move rfl) <|
      sq_end) ?_
    clear hF; intro a hF
    refine wpq_or 8 51 11 hF rfl rfl rfl rfl rfl (fun hg => have hg := (nd_false hg); sq_go 51 rfl rfl rfl (q_fieldAddr ty38 rfl rfl (s' := 0) kQ) <|
      sq_go 51 rfl rfl rfl (q_ld_blk1 ty22 1 rfl rfl rfl rfl) <|
      sq_go 51 rfl rfl rfl (q_move rfl) <|
      sq_go 51 rfl rfl rfl (q_move rfl) <|
      sq_go 51 rfl rfl rfl (q_len_row ty22 0 rfl rfl) <|
      sq_go 51 rfl rfl rfl (q_subi rfl rfl (by omega)) <|
      sq_go 51 rfl rfl rfl (q_idx_row ty22 ty3 0 rfl rfl rfl (by omega)) <|
      sq_go 51 rfl rfl rfl (q_ld_rowM ty3 0 (0 : Int) rfl rfl bQ rfl) <|
      sq_go 51 rfl rfl rfl (q_idx_sl ty22 ty3 hm rfl rfl (by omega)) <|
      sq_go 51 rfl rfl rfl (q_ld_I ty3 hm zin0 rfl rfl (by omega)) <|
      sq_go 51 rfl rfl rfl (q_nei rfl rfl) <|
      sq_end) rfl rfl ?_
    clear hF; intro a hF
    refine wpq_nil ?_
    clear hS; intro w hS
    refine hK16 _ _ ?_
    clear hK16
    refine wp_if hF rfl (fun hc4 => ?_) (fun hc4 => ?_)
    ·(try simp only [Bool.or_eq_true, Bool.and_eq_true, Bool.or_eq_false_iff, Bool.and_eq_false_iff, decide_eq_true_eq, decide_eq_false_iff_not, Bool.not_eq_true', Bool.not_eq_false'] at hc4)
     refine wp_seq_k ?_; intro K17 hK17
     refine reg hF hS (sq rfl (q_assign rfl) <|
       sq rfl (q_assign rfl) <|
       sq rfl (q_assign rfl) <|
       sq_end) ?_
     clear hF hS; intro a w hF hS
     refine hK17 _ _ ?_
     clear hK17
     refine wp_ret ?_
     exact fn_ret (rs := [.tmp 6, .tmp 7, .tmp 8]) rfl hF hS (vs := [_, _, _]) ⟨rfl, rfl, rfl, trivial⟩ zQ zQ (Hu.lnV_14 hAa hc1 hc3 hc4)
    ·(try simp only [Bool.or_eq_true, Bool.and_eq_true, Bool.or_eq_false_iff, Bool.and_eq_false_iff, decide_eq_true_eq, decide_eq_false_iff_not, Bool.not_eq_true', Bool.not_eq_false'] at hc4)
     have hlh := Hu.lnH_rng (ms := ms) (A := Aa) (by omega) hc4.1 (by have h9 := hc4.2; rw [show ((Aa.length : Int) - 1).toNat = Aa.length - 1 by omega] at h9; exact h9)
     have hll := Hu.lnLo_rng (ms := ms) (A := Aa) (Hu.lnH ms Aa).toNat
     refine wp_skip ?_
     refine hK15 _ _ ?_
     clear hK15
     refine wp_seq_k ?_; intro K18 hK18
     refine reg hF hS (sq rfl (q_move rfl) <|
       sq rfl (q_mkf rfl rfl) <|
       sq rfl (q_call fn71 rfl (fun w hS => ixf_ct _ _ _ (fun i => 0 ≤ i ∧ i < ms.length) (Hu.mk2 ms) (fun x hx => by have := hA9 x hx; omega) w (own_slV (hS.own _ (List.mem_of_getElem? (i := 0) rfl)).1 (by first | assumption | (simp; done)) (by first | rfl | (simp; done) | (simp; omega) | omega) (by first | omega | (simp; omega))) ⟨72, [], [_], rfl, fn72, fun w' hle x0 hq => line1_ct _ _ _ _ _ _ hq w' (hle _ _ (own_box hS 1 rfl)) (Sl.mono (PH.le_tr (hS.le zin0) hle) hk) (Sl.mono (PH.le_tr (hS.le zin0) hle) hm)⟩) (fun _ _ _ h => h)) <|
       sq rfl (q_assign rfl) <|
       sq_end) ?_
     clear hF hS; intro a w hF hS
     rw [show Gu.ixF (Hu.mk2 ms) Aa = Hu.lnH ms Aa from rfl] at hF
     refine hK18 _ _ ?_
     clear hK18
     refine wp_seq_k ?_; intro K19 hK19
     refine reg hF hS (sq rfl (q_assign rfl) <|
       sq_end) ?_
     clear hF hS; intro a w hF hS
     refine hK19 _ _ ?_
     clear hK19
     refine wp_seq_k ?_; intro K20 hK20
     refine wp_seq_k ?_; intro K21 hK21
     refine reg hF hS (sq rfl (q_move rfl) <|
       sq rfl (q_move rfl) <|
       sq_end) ?_
     clear hF hS; intro a w hF hS
     refine hK21 _ _ ?_
     clear hK21
     refine wp_block ?_
     obtain ⟨hs0, hhs0, hS⟩ : ∃ h, h = _ ∧ St _ _ h _ := ⟨_, rfl, hS⟩
     refine wp_loopx (γ := Int) (0) (fun (i : Int) => [(13, vi (Hu.lnLo ms Aa i.toNat)), (68, vi i)]) [(2, _), (3, _), (4, _), (9, _), (12, _), (67, _)] (fun (i : Int) => hs0) (fun (i : Int) => 0 ≤ i ∧ i ≤ Hu.lnH ms Aa) (fun (i : Int) => (Hu.lnH ms Aa - i).toNat) (hF.sub ⟨rfl, rfl, rfl, rfl, rfl, rfl, rfl, rfl, trivial⟩) (by subst hhs0; exact hS) (by exact ⟨Int.le_refl _, by omega⟩) ?_
     clear hF hS; rintro i a w hfact hF hS
     subst hhs0; (try dsimp only at hfact); (try dsimp only at hF); (try dsimp only at hS)
     obtain ⟨hi0, hi1⟩ := hfact
     replace hS : St _ [] [_, _, _] _ := hS
     refine wp_seq_k ?_; intro K22 hK22
     refine reg hF hS (sq rfl (q_lti rfl rfl) <|
       sq_end) ?_
     clear hF hS; intro a w hF hS
     refine hK22 _ _ ?_
     clear hK22
     refine wp_seq_k ?_; intro K23 hK23
     refine wp_ifd hF rfl (fun hc5 => ?_) (fun hc5 => ?_)
     ·have hAgi := hAg i.toNat (by omega)
      refine wp_skip ?_
      refine hK23 _ _ ?_
      clear hK23
      refine wp_seq_k ?_; intro K24 hK24
      refine wp_block ?_
      refine wp_seq_k ?_; intro K25 hK25
      refine reg hF hS (sq rfl (q_move rfl) <|
        sq rfl (q_assign rfl) <|
        sq_end) ?_
      clear hF hS; intro a w hF hS
      refine hK25 _ _ ?_
      clear hK25
      refine wp_seq_k ?_; intro K26 hK26
      refine regd mixed kQ hF hS (sq rfl (q_fieldAddr ty38 rfl rfl (s' := 0) kQ) <|
        sq rfl (q_ld_blk1 ty22 1 rfl rfl rfl rfl) <|
        sq rfl (q_move rfl) <|
        sq rfl (q_move rfl) <|
        sq rfl (q_idx_row ty22 ty3 0 rfl rfl rfl (by omega)) <|
        sq rfl (q_ld_rowM ty3 0 (0 : Int) rfl rfl bQ rfl) <|
        sq rfl (q_idx_sl ty22 ty3 hm rfl rfl (by omega)) <|
        sq rfl (q_ld_I ty3 hm zin0 rfl rfl (by omega)) <|
        sq rfl (q_eqi rfl rfl) <|
        sq_end) ?_
      clear hF hS; intro a w hF hS
      refine hK26 _ _ ?_
      clear hK26
      refine wp_ifd hF rfl (fun hc6 => ?_) (fun hc6 => ?_)
      ·refine reg hF hS (sq rfl (q_move rfl) <|
         sq rfl (q_assign rfl) <|
         sq_end) ?_
       clear hF hS; intro a w hF hS
       refine hK24 _ _ ?_
       clear hK24
       refine reg hF hS (sq rfl (q_addi rfl rfl (by omega)) <|
         sq rfl (q_move rfl) <|
         sq_end) ?_
       clear hF hS; intro a w hF hS
       refine ⟨(i + 1), ?_, ?_, hF.sub ⟨(by rw [Hu.lnLo_t hi0 hc6]; rfl), rfl, rfl, rfl, rfl, rfl, rfl, rfl, trivial⟩, ?_⟩
       ·(try dsimp only); omega
       ·(try dsimp only); omega
       ·exact hS
      ·refine wp_skip ?_
       refine hK24 _ _ ?_
       clear hK24
       refine reg hF hS (sq rfl (q_addi rfl rfl (by omega)) <|
         sq rfl (q_move rfl) <|
         sq_end) ?_
       clear hF hS; intro a w hF hS
       refine ⟨(i + 1), ?_, ?_, hF.sub ⟨(by rw [Hu.lnLo_f hi0 hc6]; rfl), rfl, rfl, rfl, rfl, rfl, rfl, rfl, trivial⟩, ?_⟩
       ·(try dsimp only); omega
       ·(try dsimp only); omega
       ·exact hS
     ·obtain rfl : i = Hu.lnH ms Aa := by omega
      rw [show Hu.lnLo ms Aa (Hu.lnH ms Aa).toNat = Hu.lnLow ms Aa from rfl] at hF
      have hlw : 0 ≤ Hu.lnLow ms Aa ∧ Hu.lnLow ms Aa < Hu.lnH ms Aa := by unfold Hu.lnLow; omega
      have hmd := Hu.lnMid_rng (ms := ms) (A := Aa) hlw.1 (by omega)
      refine wp_exit ?_
      refine hK20 _ _ ?_
      clear hK20
      refine wp_seq_k ?_; intro K27 hK27
      refine reg hF hS (sq rfl (q_move rfl) <|
        sq rfl (q_move rfl) <|
        sq rfl (q_addi rfl rfl (by omega)) <|
        sq rfl (q_quoi rfl rfl (by omega)) <|
        sq rfl (q_assign rfl) <|
        sq_end) ?_
      clear hF hS; intro a w hF hS
      rw [show (Hu.lnLow ms Aa + Hu.lnH ms Aa) / 2 = Hu.lnMid ms Aa from rfl] at hF
      refine hK27 _ _ ?_
      clear hK27
      refine wp_seq_k ?_; intro K28 hK28
      refine reg hF hS (sq rfl (q_assign rfl) <|
        sq_end) ?_
      clear hF hS; intro a w hF hS
      refine hK28 _ _ ?_
      clear hK28
      refine wp_seq_k ?_; intro K29 hK29
      refine wp_seq_k ?_; intro K30 hK30
      refine reg hF hS (sq rfl (q_move rfl) <|
        sq rfl (q_addi rfl rfl (by omega)) <|
        sq rfl (q_assign rfl) <|
        sq_end) ?_
      clear hF hS; intro a w hF hS
      refine hK30 _ _ ?_
      clear hK30
      refine wp_block ?_
      obtain ⟨hs0, hhs0, hS⟩ : ∃ h, h = _ ∧ St _ _ h _ := ⟨_, rfl, hS⟩
      refine wp_loopx (γ := Int) (Hu.lnLow ms Aa + 1) (fun (i : Int) => [(16, vi (Hu.lnBs xb Aa (Hu.lnMid ms Aa) (Hu.lnLow ms Aa) (i - Hu.lnLow ms Aa - 1).toNat)), (17, vi i)]) [(2, _), (3, _), (9, _), (12, _), (15, _)] (fun (i : Int) => hs0) (fun (i : Int) => Hu.lnLow ms Aa + 1 ≤ i ∧ i ≤ Hu.lnH ms Aa) (fun (i : Int) => (Hu.lnH ms Aa - i).toNat) (hF.sub ⟨(by rw [show (Hu.lnLow ms Aa + 1 - Hu.lnLow ms Aa - 1).toNat = 0 by omega]; rfl), rfl, rfl, rfl, rfl, rfl, rfl, trivial⟩) (by subst hhs0; exact hS) (by exact ⟨Int.le_refl _, by omega⟩) ?_
      clear hF hS; rintro i a w hfact hF hS
      subst hhs0; (try dsimp only at hfact); (try dsimp only at hF); (try dsimp only at hS)
      obtain ⟨hi0, hi1⟩ := hfact
      replace hS : St _ [] [_, _, _] _ := hS
      refine wp_seq_k ?_; intro K31 hK31
      refine wp_seq_k ?_; intro K32 hK32
      refine reg hF hS (sq rfl (q_move rfl) <|
        sq rfl (q_move rfl) <|
        sq rfl (q_lti rfl rfl) <|
        sq_end) ?_
      clear hF hS; intro a w hF hS
      refine hK32 _ _ ?_
      clear hK32
      refine wp_ifd hF rfl (fun hc7 => ?_) (fun hc7 => ?_)
      ·have hAgi := hAg i.toNat (by omega)
       have hbr := Hu.lnBs_rng (xb := xb) (A := Aa) (mid := Hu.lnMid ms Aa) (lo := Hu.lnLow ms Aa) hlw.1 (i - Hu.lnLow ms Aa - 1).toNat
       refine wp_skip ?_
       refine hK31 _ _ ?_
       clear hK31
       refine wp_seq_k ?_; intro K33 hK33
       refine wp_block ?_
       refine wp_seq_k ?_; intro K34 hK34
       refine regq mixed kQ hS ?_
       refine wpq_seg hF (sq rfl (q_fieldAddr ty42 rfl rfl (s' := 0) kQ) <|
         sq rfl (q_ld_blk1 ty24 2 rfl rfl rfl rfl) <|
         sq rfl (q_move rfl) <|
         sq rfl (q_move rfl) <|
         sq rfl (q_idx_row ty22 ty3 0 rfl rfl rfl (by omega)) <|
         sq rfl (q_ld_rowM ty3 0 (0 : Int) rfl rfl bQ rfl) <|
         sq rfl (q_idx_sl ty24 ty4 hxb rfl rfl (by omega)) <|
         sq rfl (q_ld_T ty4 hxb zin0 rfl rfl (by omega)) <|
         sq rfl (q_move rfl) <|
         sq_end) ?_
       clear hF; intro a hF
       refine wpq_andG (q := (decide ((Hu.lnBs xb Aa (Hu.lnMid ms Aa) (Hu.lnLow ms Aa) (i - Hu.lnLow ms Aa - 1).toNat) < 0) || decide (max (i - Hu.lnMid ms Aa) (Hu.lnMid ms Aa - i) < max ((Hu.lnBs xb Aa (Hu.lnMid ms Aa) (Hu.lnLow ms Aa) (i - Hu.lnLow ms Aa - 1).toNat) - Hu.lnMid ms Aa) (Hu.lnMid ms Aa - (Hu.lnBs xb Aa (Hu.lnMid ms Aa) (Hu.lnLow ms Aa) (i - Hu.lnLow ms Aa - 1).toNat))))) 101 19 hF rfl (by rfl) rfl (by exact trivial) (fun _ => sq_skip 101 rfl rfl rfl rfl <|
         sq_skip 101 rfl rfl rfl rfl <|
         sq_skip 101 rfl rfl rfl rfl <|
         sq_skipu 104 rfl rfl rfl <|
         sq_skipu 104 rfl rfl rfl <|
         sq_skipu 104 rfl rfl rfl <|
         sq_skipu 104 rfl rfl rfl <|
         sq_skipu 104 rfl rfl rfl <|
         sq_skipu 104 rfl rfl rfl <|
         sq_skipu 104 rfl rfl rfl <|
         sq_skipu 104 rfl rfl rfl <|
         sq_skipu 104 rfl rfl rfl <|
         sq_skipu 104 rfl rfl rfl <|
         sq_skipu 104 rfl rfl rfl <|
         sq_skipu 104 rfl rfl rfl <|
         sq_skipu 104 rfl rfl rfl <|
         sq_skipu 104 rfl rfl rfl <|
         sq_skipu 104 rfl rfl rfl <|
         sq_skip 101 rfl rfl rfl rfl <|
         sq_end) rfl (fun hg a hF KG => ?_) ?_
       ·have hg := hg
        refine wpq_seg hF (sq_go 101 rfl rfl rfl (q_move rfl) <|
          sq_go 101 rfl rfl rfl (q_lti rfl rfl) <|
          sq_go 101 rfl rfl rfl (q_move rfl) <|
          sq_end) ?_
        clear hF; intro a hF
        refine wpq_orP 11 104 15 8 101 hF rfl rfl rfl rfl rfl rfl rfl (fun hg => have hg := (by first | exact of_decide_eq_false hg | exact hg); sq_go 104 rfl rfl rfl (q_move rfl) <|
          sq_go 104 rfl rfl rfl (q_move rfl) <|
          sq_go 104 rfl rfl rfl (q_subi rfl rfl (by omega)) <|
          sq_go 104 rfl rfl rfl (q_move rfl) <|
          sq_go 104 rfl rfl rfl (q_move rfl) <|
          sq_go 104 rfl rfl rfl (q_subi rfl rfl (by omega)) <|
          sq_go 104 rfl rfl rfl (q_max rfl rfl) <|
          sq_go 104 rfl rfl rfl (q_move rfl) <|
          sq_go 104 rfl rfl rfl (q_move rfl) <|
          sq_go 104 rfl rfl rfl (q_subi rfl rfl (by omega)) <|
          sq_go 104 rfl rfl rfl (q_move rfl) <|
          sq_go 104 rfl rfl rfl (q_move rfl) <|
          sq_go 104 rfl rfl rfl (q_subi rfl rfl (by omega)) <|
          sq_go 104 rfl rfl rfl (q_max rfl rfl) <|
          sq_go 104 rfl rfl rfl (q_lti rfl rfl) <|
          sq_end) rfl rfl ?_
        clear hF; intro a hF
        refine wpq_seg hF (sq rfl (q_pick_t rfl rfl) <|
          sq_end) ?_
        clear hF; intro a hF
        exact KG _ (hF.under 4 rfl rfl)
       clear hF; intro a hF
       refine wpq_nil ?_
       clear hS; intro w hS
       refine hK34 _ _ ?_
       clear hK34
       refine wp_if hF rfl (fun hc8 => ?_) (fun hc8 => ?_)
       ·(try simp only [Bool.or_eq_true, Bool.and_eq_true, Bool.or_eq_false_iff, Bool.and_eq_false_iff, decide_eq_true_eq, decide_eq_false_iff_not, Bool.not_eq_true', Bool.not_eq_false'] at hc8)
        refine reg hF hS (sq rfl (q_move rfl) <|
          sq rfl (q_assign rfl) <|
          sq_end) ?_
        clear hF hS; intro a w hF hS
        refine hK33 _ _ ?_
        clear hK33
        refine reg hF hS (sq rfl (q_move rfl) <|
          sq rfl (q_addi rfl rfl (by omega)) <|
          sq rfl (q_assign rfl) <|
          sq_end) ?_
        clear hF hS; intro a w hF hS
        refine ⟨(i + 1), ?_, ?_, hF.sub ⟨(by rw [Hu.lnBs_t hi0 hc8]; rfl), rfl, rfl, rfl, rfl, rfl, rfl, trivial⟩, ?_⟩
        ·(try dsimp only); omega
        ·(try dsimp only); omega
        ·exact hS
       ·(try simp only [Bool.or_eq_true, Bool.and_eq_true, Bool.or_eq_false_iff, Bool.and_eq_false_iff, decide_eq_true_eq, decide_eq_false_iff_not, Bool.not_eq_true', Bool.not_eq_false'] at hc8)
        refine wp_skip ?_
        refine hK33 _ _ ?_
        clear hK33
        refine reg hF hS (sq rfl (q_move rfl) <|
          sq rfl (q_addi rfl rfl (by omega)) <|
          sq rfl (q_assign rfl) <|
          sq_end) ?_
        clear hF hS; intro a w hF hS
        refine ⟨(i + 1), ?_, ?_, hF.sub ⟨(by rw [Hu.lnBs_f hi0 (by rintro ⟨h8, h9⟩; rcases hc8 with h | h; (rw [h] at h8; cases h8); rcases h9 with h9 | h9; exact h.1 h9; exact h.2 h9)]; rfl), rfl, rfl, rfl, rfl, rfl, rfl, trivial⟩, ?_⟩
        ·(try dsimp only); omega
        ·(try dsimp only); omega
        ·exact hS
      ·obtain rfl : i = Hu.lnH ms Aa := by omega
       obtain ⟨bb, hbb⟩ : ∃ b, b = Hu.lnB xb ms Aa := ⟨_, rfl⟩
       rw [show (Hu.lnBs xb Aa (Hu.lnMid ms Aa) (Hu.lnLow ms Aa) (Hu.lnH ms Aa - Hu.lnLow ms Aa - 1).toNat) = bb from hbb.symm] at hF
       have hbr : -1 ≤ bb ∧ bb < Hu.lnH ms Aa := by have := Hu.lnBs_rng (xb := xb) (A := Aa) (mid := Hu.lnMid ms Aa) (lo := Hu.lnLow ms Aa) hlw.1 (Hu.lnH ms Aa - Hu.lnLow ms Aa - 1).toNat; rw [hbb]; unfold Hu.lnB; omega
       refine wp_exit ?_
       refine hK29 _ _ ?_
       clear hK29
       refine wp_seq_k ?_; intro K35 hK35
       refine wp_seq_k ?_; intro K36 hK36
       refine reg hF hS (sq rfl (q_move rfl) <|
         sq rfl (q_lti rfl rfl) <|
         sq_end) ?_
       clear hF hS; intro a w hF hS
       refine hK36 _ _ ?_
       clear hK36
       refine wp_ifd hF rfl (fun hc9 => ?_) (fun hc9 => ?_)
       ·refine wp_seq_k ?_; intro K37 hK37
        refine reg hF hS (sq rfl (q_move rfl) <|
          sq rfl (q_move rfl) <|
          sq rfl (q_idx_sl ty22 ty3 hp rfl rfl (by omega)) <|
          sq rfl (q_ld_I ty3 hp zin0 rfl rfl (by omega)) <|
          sq rfl (q_assign rfl) <|
          sq rfl (q_assign rfl) <|
          sq rfl (q_assign rfl) <|
          sq_end) ?_
        clear hF hS; intro a w hF hS
        refine hK37 _ _ ?_
        clear hK37
        refine wp_ret ?_
        exact fn_ret (rs := [.tmp 6, .tmp 7, .tmp 8]) rfl hF hS (vs := [_, _, _]) ⟨rfl, rfl, rfl, trivial⟩ zQ zQ (Hu.lnV_a hAa hc1 hc3 hc4 (by omega))
       ·refine wp_skip ?_
        refine hK35 _ _ ?_
        clear hK35
        refine wp_seq_k ?_; intro K38 hK38
        refine reg hF hS (sq rfl (q_move rfl) <|
          sq rfl (q_move rfl) <|
          sq rfl (q_idx_sl ty22 ty3 hp rfl rfl (by omega)) <|
          sq rfl (q_ld_I ty3 hp zin0 rfl rfl (by omega)) <|
          sq rfl (q_assign rfl) <|
          sq rfl (q_assign rfl) <|
          sq rfl (q_assign rfl) <|
          sq_end) ?_
        clear hF hS; intro a w hF hS
        refine hK38 _ _ ?_
        clear hK38
        refine wp_ret ?_
        exact fn_ret (rs := [.tmp 6, .tmp 7, .tmp 8]) rfl hF hS (vs := [_, _, _]) ⟨rfl, rfl, rfl, trivial⟩ zQ zQ (by rw [hbb]; exact Hu.lnV_b hAa hc1 hc3 hc4 (by omega))
end Go.Proofs.Ytefjpigmgmbghaa
