/- A text of a proof over this seat: walks over the program's functions and the plain laws that they need. -/
import Derived.Test.YtcolgcdnpfpcdaaVh15
import Derived.Test.YtcolgcdnpfpcdaaLs
import Derived.Test.YtcolgcdnpfpcdaaFw20
set_option linter.all false
namespace Go.Proofs.Ytcolgcdnpfpcdaa
open Go.Fw
theorem ty22 : Tf Try.prog 22 (.slice 3) 1 24 (Value.slice none 0 0) := ⟨Try.underlying22, by kernel_rfl⟩
theorem ty23 : Tf Try.prog 23 (.slice 9) 1 24 (Value.slice none 0 0) := ⟨Try.underlying23, by kernel_rfl⟩
theorem ty24 : Tf Try.prog 24 (.slice 57) 1 24 (Value.slice none 0 0) := ⟨Try.underlying24, by kernel_rfl⟩
theorem ty57 : Tf Try.prog 57 (.array 16 5) 16 16 (.agg (List.replicate 16 (Value.int .u8 0)).toArray) := ⟨Try.underlying57, by kernel_rfl⟩
theorem fn16 : FnOk Try.prog 16 := ⟨_, Try.func16, rfl, by kernel_rfl⟩
theorem fn17 : FnOk Try.prog 17 := ⟨_, Try.func17, rfl, by kernel_rfl⟩

set_option maxHeartbeats 2000000 in
theorem same_ct (v1 v2 : Value) (xa xb : List UInt8) (w : World) (hb1 : Sl encB (ph w) v1 xa) (hb2 : Sl encB (ph w) v2 xb) : Ct Try.prog 13 [v1, v2] w (fun r _ _ => r = .bool (decide (xa = xb))) := by
  refine fn_enter Try.func13 rfl Try.ntmps13 (Nat.le_of_ble_eq_true rfl) fun a hF hS => ?_
  have hla := hb1.1
  have hlb := hb2.1
  refine wp_seq_k ?_; intro K1 hK1
  refine reg hF hS (sq rfl (q_assign rfl) <|
      sq_end) ?_
  clear hF hS; intro a w hF hS
  refine hK1 _ _ ?_
  clear hK1
  refine wp_seq_k ?_; intro K2 hK2
  refine wp_seq_k ?_; intro K3 hK3
  refine reg hF hS (sq rfl (q_move rfl) <|
      sq rfl (q_len_sl ty28 hb1 rfl) <|
      sq rfl (q_move rfl) <|
      sq rfl (q_len_sl ty28 hb2 rfl) <|
      sq rfl (q_nei rfl rfl) <|
      sq_end) ?_
  clear hF hS; intro a w hF hS
  refine hK3 _ _ ?_
  clear hK3
  refine wp_ifn hF rfl (fun hc1 => ?_) (fun hc1 => ?_)
  · refine wp_seq_k ?_; intro K4 hK4
    refine reg hF hS (sq rfl (q_assign rfl) <|
        sq_end) ?_
    clear hF hS; intro a w hF hS
    refine hK4 _ _ ?_
    clear hK4
    refine wp_ret ?_
    exact fn_ret (rs := [.tmp 4]) rfl hF hS (vs := [_]) ⟨rfl, trivial⟩ (List.nil_sublist _) (List.nil_sublist _) (Ls.same_len hc1)
  · refine wp_skip ?_
    refine hK2 _ _ ?_
    clear hK2
    refine wp_seq_k ?_; intro K5 hK5
    refine wp_seq_k ?_; intro K6 hK6
    refine reg hF hS (sq rfl (q_assign rfl) <|
        sq_end) ?_
    clear hF hS; intro a w hF hS
    refine hK6 _ _ ?_
    clear hK6
    refine wp_block ?_
    obtain ⟨hs0, hhs0, hS⟩ : ∃ h, h = _ ∧ St _ _ h _ := ⟨_, rfl, hS⟩
    refine wp_loopx (γ := Int) (0) (fun (i : Int) => [(5, vi i)]) [(0, _), (1, _)] (fun (i : Int) => hs0) (fun (i : Int) => 0 ≤ i ∧ i ≤ xa.length ∧ xa.take i.toNat = xb.take i.toNat) (fun (i : Int) => (xa.length - i).toNat) (hF.sub ⟨rfl, rfl, rfl, trivial⟩) (by subst hhs0; exact hS) (by exact ⟨Int.le_refl _, by omega, rfl⟩) ?_
    clear hF hS; rintro i a w hfact hF hS
    subst hhs0; (try dsimp only at hfact); (try dsimp only at hF); (try dsimp only at hS)
    obtain ⟨hi0, hi1, htk⟩ := hfact
    replace hS : St _ [] [] _ := hS
    refine wp_seq_k ?_; intro K7 hK7
    refine wp_seq_k ?_; intro K8 hK8
    refine reg hF hS (sq rfl (q_move rfl) <|
        sq rfl (q_move rfl) <|
        sq rfl (q_len_sl ty28 hb1 rfl) <|
        sq rfl (q_lti rfl rfl) <|
        sq_end) ?_
    clear hF hS; intro a w hF hS
    refine hK8 _ _ ?_
    clear hK8
    refine wp_ifd hF rfl (fun hc2 => ?_) (fun hc2 => ?_)
    · have hi2 : i < xb.length := by omega
      refine wp_skip ?_
      refine hK7 _ _ ?_
      clear hK7
      refine wp_seq_k ?_; intro K9 hK9
      refine wp_block ?_
      refine wp_seq_k ?_; intro K10 hK10
      refine regd mixed (by kernel_rfl) hF hS (sq rfl (q_move rfl) <|
          sq rfl (q_move rfl) <|
          sq rfl (q_idx_sl ty28 ty5 hb1 rfl rfl (by omega)) <|
          sq rfl (q_ld_B ty5 hb1 zin0 rfl rfl (by omega)) <|
          sq rfl (q_move rfl) <|
          sq rfl (q_move rfl) <|
          sq rfl (q_idx_sl ty28 ty5 hb2 rfl rfl (by omega)) <|
          sq rfl (q_ld_B ty5 hb2 zin0 rfl rfl (by omega)) <|
          sq rfl (q_neb rfl rfl) <|
          sq_end) ?_
      clear hF hS; intro a w hF hS
      refine hK10 _ _ ?_
      clear hK10
      refine wp_ifn hF rfl (fun hc3 => ?_) (fun hc3 => ?_)
      · refine wp_seq_k ?_; intro K11 hK11
        refine reg hF hS (sq rfl (q_assign rfl) <|
            sq_end) ?_
        clear hF hS; intro a w hF hS
        refine hK11 _ _ ?_
        clear hK11
        refine wp_ret ?_
        exact fn_ret (rs := [.tmp 4]) rfl hF hS (vs := [_]) ⟨rfl, trivial⟩ (List.nil_sublist _) (List.nil_sublist _) (Ls.same_ne 0 hc3)
      · refine wp_skip ?_
        refine hK9 _ _ ?_
        clear hK9
        refine reg hF hS (sq rfl (q_move rfl) <|
            sq rfl (q_addi rfl rfl (by omega)) <|
            sq rfl (q_assign rfl) <|
            sq_end) ?_
        clear hF hS; intro a w hF hS
        refine ⟨(i + 1), ?_, ?_, hF.sub ⟨rfl, rfl, rfl, trivial⟩, ?_⟩
        · (try dsimp only); omega
        · refine ⟨by omega, by omega, Ls.same_step 0 hi0 (by omega) hc1 hc3 htk⟩
        · exact hS
    · refine wp_exit ?_
      refine hK5 _ _ ?_
      clear hK5
      refine wp_seq_k ?_; intro K12 hK12
      refine reg hF hS (sq rfl (q_assign rfl) <|
          sq_end) ?_
      clear hF hS; intro a w hF hS
      refine hK12 _ _ ?_
      clear hK12
      refine wp_ret ?_
      exact fn_ret (rs := [.tmp 4]) rfl hF hS (vs := [_]) ⟨rfl, trivial⟩ (List.nil_sublist _) (List.nil_sublist _) (Ls.same_eq hc1 hc2 htk)

set_option maxHeartbeats 2000000 in
theorem samei_ct (v1 v2 : Value) (xa xb : List Int) (w : World) (hb1 : Sl encI (ph w) v1 xa) (hb2 : Sl encI (ph w) v2 xb) : Ct Try.prog 30 [v1, v2] w (fun r _ _ => r = .bool (decide (xa = xb))) := by
  refine fn_enter Try.func30 rfl Try.ntmps30 (Nat.le_of_ble_eq_true rfl) fun a hF hS => ?_
  have hla := hb1.1
  have hlb := hb2.1
  refine wp_seq_k ?_; intro K1 hK1
  refine reg hF hS (sq rfl (q_assign rfl) <|
      sq_end) ?_
  clear hF hS; intro a w hF hS
  refine hK1 _ _ ?_
  clear hK1
  refine wp_seq_k ?_; intro K2 hK2
  refine wp_seq_k ?_; intro K3 hK3
  refine reg hF hS (sq rfl (q_move rfl) <|
      sq rfl (q_len_sl ty22 hb1 rfl) <|
      sq rfl (q_move rfl) <|
      sq rfl (q_len_sl ty22 hb2 rfl) <|
      sq rfl (q_nei rfl rfl) <|
      sq_end) ?_
  clear hF hS; intro a w hF hS
  refine hK3 _ _ ?_
  clear hK3
  refine wp_ifn hF rfl (fun hc1 => ?_) (fun hc1 => ?_)
  · refine wp_seq_k ?_; intro K4 hK4
    refine reg hF hS (sq rfl (q_assign rfl) <|
        sq_end) ?_
    clear hF hS; intro a w hF hS
    refine hK4 _ _ ?_
    clear hK4
    refine wp_ret ?_
    exact fn_ret (rs := [.tmp 4]) rfl hF hS (vs := [_]) ⟨rfl, trivial⟩ (List.nil_sublist _) (List.nil_sublist _) (Ls.same_len hc1)
  · refine wp_skip ?_
    refine hK2 _ _ ?_
    clear hK2
    refine wp_seq_k ?_; intro K5 hK5
    refine wp_seq_k ?_; intro K6 hK6
    refine reg hF hS (sq rfl (q_assign rfl) <|
        sq_end) ?_
    clear hF hS; intro a w hF hS
    refine hK6 _ _ ?_
    clear hK6
    refine wp_block ?_
    obtain ⟨hs0, hhs0, hS⟩ : ∃ h, h = _ ∧ St _ _ h _ := ⟨_, rfl, hS⟩
    refine wp_loopx (γ := Int) (0) (fun (i : Int) => [(5, vi i)]) [(0, _), (1, _)] (fun (i : Int) => hs0) (fun (i : Int) => 0 ≤ i ∧ i ≤ xa.length ∧ xa.take i.toNat = xb.take i.toNat) (fun (i : Int) => (xa.length - i).toNat) (hF.sub ⟨rfl, rfl, rfl, trivial⟩) (by subst hhs0; exact hS) (by exact ⟨Int.le_refl _, by omega, rfl⟩) ?_
    clear hF hS; rintro i a w hfact hF hS
    subst hhs0; (try dsimp only at hfact); (try dsimp only at hF); (try dsimp only at hS)
    obtain ⟨hi0, hi1, htk⟩ := hfact
    replace hS : St _ [] [] _ := hS
    refine wp_seq_k ?_; intro K7 hK7
    refine wp_seq_k ?_; intro K8 hK8
    refine reg hF hS (sq rfl (q_move rfl) <|
        sq rfl (q_move rfl) <|
        sq rfl (q_len_sl ty22 hb1 rfl) <|
        sq rfl (q_lti rfl rfl) <|
        sq_end) ?_
    clear hF hS; intro a w hF hS
    refine hK8 _ _ ?_
    clear hK8
    refine wp_ifd hF rfl (fun hc2 => ?_) (fun hc2 => ?_)
    · have hi2 : i < xb.length := by omega
      refine wp_skip ?_
      refine hK7 _ _ ?_
      clear hK7
      refine wp_seq_k ?_; intro K9 hK9
      refine wp_block ?_
      refine wp_seq_k ?_; intro K10 hK10
      refine regd mixed (by kernel_rfl) hF hS (sq rfl (q_move rfl) <|
          sq rfl (q_move rfl) <|
          sq rfl (q_idx_sl ty22 ty3 hb1 rfl rfl (by omega)) <|
          sq rfl (q_ld_I ty3 hb1 zin0 rfl rfl (by omega)) <|
          sq rfl (q_move rfl) <|
          sq rfl (q_move rfl) <|
          sq rfl (q_idx_sl ty22 ty3 hb2 rfl rfl (by omega)) <|
          sq rfl (q_ld_I ty3 hb2 zin0 rfl rfl (by omega)) <|
          sq rfl (q_nei rfl rfl) <|
          sq_end) ?_
      clear hF hS; intro a w hF hS
      refine hK10 _ _ ?_
      clear hK10
      refine wp_ifn hF rfl (fun hc3 => ?_) (fun hc3 => ?_)
      · refine wp_seq_k ?_; intro K11 hK11
        refine reg hF hS (sq rfl (q_assign rfl) <|
            sq_end) ?_
        clear hF hS; intro a w hF hS
        refine hK11 _ _ ?_
        clear hK11
        refine wp_ret ?_
        exact fn_ret (rs := [.tmp 4]) rfl hF hS (vs := [_]) ⟨rfl, trivial⟩ (List.nil_sublist _) (List.nil_sublist _) (Ls.same_ne 0 hc3)
      · refine wp_skip ?_
        refine hK9 _ _ ?_
        clear hK9
        refine reg hF hS (sq rfl (q_move rfl) <|
            sq rfl (q_addi rfl rfl (by omega)) <|
            sq rfl (q_assign rfl) <|
            sq_end) ?_
        clear hF hS; intro a w hF hS
        refine ⟨(i + 1), ?_, ?_, hF.sub ⟨rfl, rfl, rfl, trivial⟩, ?_⟩
        · (try dsimp only); omega
        · refine ⟨by omega, by omega, Ls.same_step 0 hi0 (by omega) hc1 hc3 htk⟩
        · exact hS
    · refine wp_exit ?_
      refine hK5 _ _ ?_
      clear hK5
      refine wp_seq_k ?_; intro K12 hK12
      refine reg hF hS (sq rfl (q_assign rfl) <|
          sq_end) ?_
      clear hF hS; intro a w hF hS
      refine hK12 _ _ ?_
      clear hK12
      refine wp_ret ?_
      exact fn_ret (rs := [.tmp 4]) rfl hF hS (vs := [_]) ⟨rfl, trivial⟩ (List.nil_sublist _) (List.nil_sublist _) (Ls.same_eq hc1 hc2 htk)

set_option maxHeartbeats 2000000 in
theorem samet_ct (v1 v2 : Value) (xa xb : List (List UInt8)) (w : World) (hb1 : Sl encS (ph w) v1 xa) (hb2 : Sl encS (ph w) v2 xb) : Ct Try.prog 33 [v1, v2] w (fun r _ _ => r = .bool (decide (xa = xb))) := by
  refine fn_enter Try.func33 rfl Try.ntmps33 (Nat.le_of_ble_eq_true rfl) fun a hF hS => ?_
  have hla := hb1.1
  have hlb := hb2.1
  refine wp_seq_k ?_; intro K1 hK1
  refine reg hF hS (sq rfl (q_assign rfl) <|
      sq_end) ?_
  clear hF hS; intro a w hF hS
  refine hK1 _ _ ?_
  clear hK1
  refine wp_seq_k ?_; intro K2 hK2
  refine wp_seq_k ?_; intro K3 hK3
  refine reg hF hS (sq rfl (q_move rfl) <|
      sq rfl (q_len_sl ty23 hb1 rfl) <|
      sq rfl (q_move rfl) <|
      sq rfl (q_len_sl ty23 hb2 rfl) <|
      sq rfl (q_nei rfl rfl) <|
      sq_end) ?_
  clear hF hS; intro a w hF hS
  refine hK3 _ _ ?_
  clear hK3
  refine wp_ifn hF rfl (fun hc1 => ?_) (fun hc1 => ?_)
  · refine wp_seq_k ?_; intro K4 hK4
    refine reg hF hS (sq rfl (q_assign rfl) <|
        sq_end) ?_
    clear hF hS; intro a w hF hS
    refine hK4 _ _ ?_
    clear hK4
    refine wp_ret ?_
    exact fn_ret (rs := [.tmp 4]) rfl hF hS (vs := [_]) ⟨rfl, trivial⟩ (List.nil_sublist _) (List.nil_sublist _) (Ls.same_len hc1)
  · refine wp_skip ?_
    refine hK2 _ _ ?_
    clear hK2
    refine wp_seq_k ?_; intro K5 hK5
    refine wp_seq_k ?_; intro K6 hK6
    refine reg hF hS (sq rfl (q_assign rfl) <|
        sq_end) ?_
    clear hF hS; intro a w hF hS
    refine hK6 _ _ ?_
    clear hK6
    refine wp_block ?_
    obtain ⟨hs0, hhs0, hS⟩ : ∃ h, h = _ ∧ St _ _ h _ := ⟨_, rfl, hS⟩
    refine wp_loopx (γ := Int) (0) (fun (i : Int) => [(5, vi i)]) [(0, _), (1, _)] (fun (i : Int) => hs0) (fun (i : Int) => 0 ≤ i ∧ i ≤ xa.length ∧ xa.take i.toNat = xb.take i.toNat) (fun (i : Int) => (xa.length - i).toNat) (hF.sub ⟨rfl, rfl, rfl, trivial⟩) (by subst hhs0; exact hS) (by exact ⟨Int.le_refl _, by omega, rfl⟩) ?_
    clear hF hS; rintro i a w hfact hF hS
    subst hhs0; (try dsimp only at hfact); (try dsimp only at hF); (try dsimp only at hS)
    obtain ⟨hi0, hi1, htk⟩ := hfact
    replace hS : St _ [] [] _ := hS
    refine wp_seq_k ?_; intro K7 hK7
    refine wp_seq_k ?_; intro K8 hK8
    refine reg hF hS (sq rfl (q_move rfl) <|
        sq rfl (q_move rfl) <|
        sq rfl (q_len_sl ty23 hb1 rfl) <|
        sq rfl (q_lti rfl rfl) <|
        sq_end) ?_
    clear hF hS; intro a w hF hS
    refine hK8 _ _ ?_
    clear hK8
    refine wp_ifd hF rfl (fun hc2 => ?_) (fun hc2 => ?_)
    · have hi2 : i < xb.length := by omega
      refine wp_skip ?_
      refine hK7 _ _ ?_
      clear hK7
      refine wp_seq_k ?_; intro K9 hK9
      refine wp_block ?_
      refine wp_seq_k ?_; intro K10 hK10
      refine regd mixed (by kernel_rfl) hF hS (sq rfl (q_move rfl) <|
          sq rfl (q_move rfl) <|
          sq rfl (q_idx_sl ty23 ty9 hb1 rfl rfl (by omega)) <|
          sq rfl (q_ld_S ty9 hb1 zin0 rfl rfl (by omega)) <|
          sq rfl (q_move rfl) <|
          sq rfl (q_move rfl) <|
          sq rfl (q_idx_sl ty23 ty9 hb2 rfl rfl (by omega)) <|
          sq rfl (q_ld_S ty9 hb2 zin0 rfl rfl (by omega)) <|
          sq rfl (q_nes rfl rfl) <|
          sq_end) ?_
      clear hF hS; intro a w hF hS
      refine hK10 _ _ ?_
      clear hK10
      refine wp_ifn hF rfl (fun hc3 => ?_) (fun hc3 => ?_)
      · refine wp_seq_k ?_; intro K11 hK11
        refine reg hF hS (sq rfl (q_assign rfl) <|
            sq_end) ?_
        clear hF hS; intro a w hF hS
        refine hK11 _ _ ?_
        clear hK11
        refine wp_ret ?_
        exact fn_ret (rs := [.tmp 4]) rfl hF hS (vs := [_]) ⟨rfl, trivial⟩ (List.nil_sublist _) (List.nil_sublist _) (Ls.same_ne [] hc3)
      · refine wp_skip ?_
        refine hK9 _ _ ?_
        clear hK9
        refine reg hF hS (sq rfl (q_move rfl) <|
            sq rfl (q_addi rfl rfl (by omega)) <|
            sq rfl (q_assign rfl) <|
            sq_end) ?_
        clear hF hS; intro a w hF hS
        refine ⟨(i + 1), ?_, ?_, hF.sub ⟨rfl, rfl, rfl, trivial⟩, ?_⟩
        · (try dsimp only); omega
        · refine ⟨by omega, by omega, Ls.same_step [] hi0 (by omega) hc1 hc3 htk⟩
        · exact hS
    · refine wp_exit ?_
      refine hK5 _ _ ?_
      clear hK5
      refine wp_seq_k ?_; intro K12 hK12
      refine reg hF hS (sq rfl (q_assign rfl) <|
          sq_end) ?_
      clear hF hS; intro a w hF hS
      refine hK12 _ _ ?_
      clear hK12
      refine wp_ret ?_
      exact fn_ret (rs := [.tmp 4]) rfl hF hS (vs := [_]) ⟨rfl, trivial⟩ (List.nil_sublist _) (List.nil_sublist _) (Ls.same_eq hc1 hc2 htk)

set_option maxHeartbeats 2000000 in
theorem samed_ct (v1 v2 : Value) (xa xb : List (List UInt8)) (w : World) (hb1 : Sl (encA 16) (ph w) v1 xa) (hb2 : Sl (encA 16) (ph w) v2 xb) : Ct Try.prog 36 [v1, v2] w (fun r _ _ => r = .bool (decide (xa = xb))) := by
  refine fn_enter Try.func36 rfl Try.ntmps36 (Nat.le_of_ble_eq_true rfl) fun a hF hS => ?_
  have hla := hb1.1
  have hlb := hb2.1
  have h16a : ∀ i, i < xa.length → (xa.getD i []).length = 16 := fun i hi => (hb1.rep (i := i) (x := xa.getD i []) (by simp [hi])).1
  have h16b : ∀ i, i < xb.length → (xb.getD i []).length = 16 := fun i hi => (hb2.rep (i := i) (x := xb.getD i []) (by simp [hi])).1
  refine wp_seq_k ?_; intro K1 hK1
  refine reg hF hS (sq rfl (q_assign rfl) <|
      sq_end) ?_
  clear hF hS; intro a w hF hS
  refine hK1 _ _ ?_
  clear hK1
  refine wp_seq_k ?_; intro K2 hK2
  refine wp_seq_k ?_; intro K3 hK3
  refine reg hF hS (sq rfl (q_move rfl) <|
      sq rfl (q_len_sl ty24 hb1 rfl) <|
      sq rfl (q_move rfl) <|
      sq rfl (q_len_sl ty24 hb2 rfl) <|
      sq rfl (q_nei rfl rfl) <|
      sq_end) ?_
  clear hF hS; intro a w hF hS
  refine hK3 _ _ ?_
  clear hK3
  refine wp_ifn hF rfl (fun hc1 => ?_) (fun hc1 => ?_)
  · refine wp_seq_k ?_; intro K4 hK4
    refine reg hF hS (sq rfl (q_assign rfl) <|
        sq_end) ?_
    clear hF hS; intro a w hF hS
    refine hK4 _ _ ?_
    clear hK4
    refine wp_ret ?_
    exact fn_ret (rs := [.tmp 4]) rfl hF hS (vs := [_]) ⟨rfl, trivial⟩ (List.nil_sublist _) (List.nil_sublist _) (Ls.same_len hc1)
  · refine wp_skip ?_
    refine hK2 _ _ ?_
    clear hK2
    refine wp_seq_k ?_; intro K5 hK5
    refine wp_seq_k ?_; intro K6 hK6
    refine reg hF hS (sq rfl (q_assign rfl) <|
        sq_end) ?_
    clear hF hS; intro a w hF hS
    refine hK6 _ _ ?_
    clear hK6
    refine wp_block ?_
    obtain ⟨hs0, hhs0, hS⟩ : ∃ h, h = _ ∧ St _ _ h _ := ⟨_, rfl, hS⟩
    refine wp_loopx (γ := Int) (0) (fun (i : Int) => [(5, vi i)]) [(0, _), (1, _)] (fun (i : Int) => hs0) (fun (i : Int) => 0 ≤ i ∧ i ≤ xa.length ∧ xa.take i.toNat = xb.take i.toNat) (fun (i : Int) => (xa.length - i).toNat) (hF.sub ⟨rfl, rfl, rfl, trivial⟩) (by subst hhs0; exact hS) (by exact ⟨Int.le_refl _, by omega, rfl⟩) ?_
    clear hF hS; rintro i a w hfact hF hS
    subst hhs0; (try dsimp only at hfact); (try dsimp only at hF); (try dsimp only at hS)
    obtain ⟨hi0, hi1, htk⟩ := hfact
    replace hS : St _ [] [] _ := hS
    refine wp_seq_k ?_; intro K7 hK7
    refine wp_seq_k ?_; intro K8 hK8
    refine reg hF hS (sq rfl (q_move rfl) <|
        sq rfl (q_move rfl) <|
        sq rfl (q_len_sl ty24 hb1 rfl) <|
        sq rfl (q_lti rfl rfl) <|
        sq_end) ?_
    clear hF hS; intro a w hF hS
    refine hK8 _ _ ?_
    clear hK8
    refine wp_ifd hF rfl (fun hc2 => ?_) (fun hc2 => ?_)
    · have hi2 : i < xb.length := by omega
      have h16a1 := h16a i.toNat (by omega)
      have h16b1 := h16b i.toNat (by omega)
      refine wp_skip ?_
      refine hK7 _ _ ?_
      clear hK7
      refine wp_seq_k ?_; intro K9 hK9
      refine wp_block ?_
      refine wp_seq_k ?_; intro K10 hK10
      refine regd mixed (by kernel_rfl) hF hS (sq rfl (q_move rfl) <|
          sq rfl (q_move rfl) <|
          sq rfl (q_idx_sl ty24 ty57 hb1 rfl rfl (by omega)) <|
          sq rfl (q_ld_AB ty57 hb1 zin0 rfl rfl (by decide) (by omega)) <|
          sq rfl (q_move rfl) <|
          sq rfl (q_move rfl) <|
          sq rfl (q_idx_sl ty24 ty57 hb2 rfl rfl (by omega)) <|
          sq rfl (q_ld_AB ty57 hb2 zin0 rfl rfl (by decide) (by omega)) <|
          sq rfl (q_neAB ty57 ty5 (by kernel_rfl) rfl rfl (by first | omega | (rw [List.length_map]; omega) | (simp; omega) | (simp [*]; done) | decide | (simp [*]; omega)) (by first | omega | (rw [List.length_map]; omega) | (simp; omega) | (simp [*]; done) | decide | (simp [*]; omega))) <|
          sq_end) ?_
      clear hF hS; intro a w hF hS
      refine hK10 _ _ ?_
      clear hK10
      refine wp_ifn hF rfl (fun hc3 => ?_) (fun hc3 => ?_)
      · refine wp_seq_k ?_; intro K11 hK11
        refine reg hF hS (sq rfl (q_assign rfl) <|
            sq_end) ?_
        clear hF hS; intro a w hF hS
        refine hK11 _ _ ?_
        clear hK11
        refine wp_ret ?_
        exact fn_ret (rs := [.tmp 4]) rfl hF hS (vs := [_]) ⟨rfl, trivial⟩ (List.nil_sublist _) (List.nil_sublist _) (Ls.same_ne [] hc3)
      · refine wp_skip ?_
        refine hK9 _ _ ?_
        clear hK9
        refine reg hF hS (sq rfl (q_move rfl) <|
            sq rfl (q_addi rfl rfl (by omega)) <|
            sq rfl (q_assign rfl) <|
            sq_end) ?_
        clear hF hS; intro a w hF hS
        refine ⟨(i + 1), ?_, ?_, hF.sub ⟨rfl, rfl, rfl, trivial⟩, ?_⟩
        · (try dsimp only); omega
        · refine ⟨by omega, by omega, Ls.same_step [] hi0 (by omega) hc1 hc3 htk⟩
        · exact hS
    · refine wp_exit ?_
      refine hK5 _ _ ?_
      clear hK5
      refine wp_seq_k ?_; intro K12 hK12
      refine reg hF hS (sq rfl (q_assign rfl) <|
          sq_end) ?_
      clear hF hS; intro a w hF hS
      refine hK12 _ _ ?_
      clear hK12
      refine wp_ret ?_
      exact fn_ret (rs := [.tmp 4]) rfl hF hS (vs := [_]) ⟨rfl, trivial⟩ (List.nil_sublist _) (List.nil_sublist _) (Ls.same_eq hc1 hc2 htk)

attribute [local irreducible] Wi.int Wi.bytes Wi.ints Wi.strs Wi.dgs Ls.encT

theorem ints_def (l : List Int) : Wi.int (l.length : Int) ++ l.flatMap Wi.int = Wi.ints l := by unfold Wi.ints; rfl

theorem strs_def (l : List (List UInt8)) : Wi.int (l.length : Int) ++ l.flatMap Wi.bytes = Wi.strs l := by unfold Wi.strs; rfl

theorem dgs_def (l : List (List UInt8)) : Wi.int (l.length : Int) ++ l.flatMap (fun x => x) = Wi.dgs l := by unfold Wi.dgs; rw [List.flatMap_id']

set_option maxHeartbeats 2000000 in
theorem wints_ct (v : Value) (l : List Int) (hl : l.length < 1048576) (w : World) (hb : Sl encI (ph w) v l) : Ct Try.prog 18 [v] w (fun v zs hs => zs = [] ∧ hs = [.row v 5 1 (Wi.ints l).length ((Wi.ints l).map vb)]) := by
  refine fn_enter Try.func18 rfl Try.ntmps18 (Nat.le_of_ble_eq_true rfl) fun a hF hS => ?_
  have hil := Wi.int_len9 l.length
  have hbound : ∀ i, (Ls.encT Wi.int l i).length ≤ 9 + l.length * 9 := Ls.encT_len Wi.int l 9 (fun x _ => (Wi.int_len9 x).2)
  refine wp_seq_k ?_; intro K1 hK1
  refine reg hF hS (sq rfl (q_assign rfl) <|
      sq_end) ?_
  clear hF hS; intro a w hF hS
  refine hK1 _ _ ?_
  clear hK1
  refine wp_seq_k ?_; intro K2 hK2
  refine regl ?_
  refine wpl_sq hF hS (sq rfl (q_move rfl) <|
      sq rfl (q_len_sl ty22 hb rfl) <|
      sq_end) ?_
  clear hF hS; intro a w hF hS
  refine wpl_ef hF hS rfl (ef_call fn14 rfl (fun w hS => wint_ct _ w )) ?_
  clear hF hS; rintro v1 _ _ a w ⟨_, _, rfl, rfl, rfl, rfl⟩ hF hS
  replace hS : St _ [] [_] _ := hS
  refine wpl_sq hF hS (sq rfl (q_assign rfl) <|
      sq_end) ?_
  clear hF hS; intro a w hF hS
  refine wpList_nil ?_
  refine hK2 _ _ ?_
  clear hK2
  refine wp_seq_k ?_; intro K3 hK3
  refine wp_seq_k ?_; intro K4 hK4
  refine reg hF hS (sq rfl (q_move rfl) <|
      sq rfl (q_len_sl ty22 hb rfl) <|
      sq rfl (q_move rfl) <|
      sq_end) ?_
  clear hF hS; intro a w hF hS
  refine hK4 _ _ ?_
  clear hK4
  refine wp_block ?_
  obtain ⟨hs0, hhs0, hS⟩ : ∃ h, h = _ ∧ St _ _ h _ := ⟨_, rfl, hS⟩
  refine wp_loopx (γ := Value × Int) (v1, 0) (fun (gg : Value × Int) => match gg with | (u, i) => [(3, u), (11, vi i)]) [(9, _), (10, _)] (fun (gg : Value × Int) => match gg with | (u, i) => (hs0.set 0 (.row u 5 1 (Ls.encT Wi.int l i.toNat).length ((Ls.encT Wi.int l i.toNat).map vb)))) (fun (gg : Value × Int) => match gg with | (u, i) => 0 ≤ i ∧ i ≤ l.length) (fun (gg : Value × Int) => match gg with | (u, i) => (l.length - i).toNat) (hF.sub ⟨rfl, rfl, rfl, rfl, trivial⟩) (by subst hhs0; dsimp only; rw [show (0 : Int).toNat = 0 from rfl, Ls.encT_0]; exact hS) (by exact ⟨Int.le_refl _, by omega⟩) ?_
  clear hF hS; rintro ⟨u, i⟩ a w hfact hF hS
  subst hhs0; (try dsimp only at hfact); (try dsimp only at hF); (try dsimp only at hS)
  obtain ⟨hi0, hi1⟩ := hfact
  replace hS : St _ [] [_] _ := hS
  have htl := hbound i.toNat
  refine wp_seq_k ?_; intro K5 hK5
  refine reg hF hS (sq rfl (q_lti rfl rfl) <|
      sq_end) ?_
  clear hF hS; intro a w hF hS
  refine hK5 _ _ ?_
  clear hK5
  refine wp_seq_k ?_; intro K6 hK6
  refine wp_ifd hF rfl (fun hc1 => ?_) (fun hc1 => ?_)
  · have hxl := Wi.int_len9 (l.getD i.toNat 0)
    have hxr := (hb.rep (i := i.toNat) (x := l.getD i.toNat 0) (Ls.getD_some 0 (by omega))).2
    refine wp_skip ?_
    refine hK6 _ _ ?_
    clear hK6
    refine wp_seq_k ?_; intro K7 hK7
    refine wp_block ?_
    refine wp_seq_k ?_; intro K8 hK8
    refine reg hF hS (sq rfl (q_idx_sl ty22 ty3 hb rfl rfl (by omega)) <|
        sq rfl (q_ld_I ty3 hb zin0 rfl rfl (by omega)) <|
        sq rfl (q_assign rfl) <|
        sq_end) ?_
    clear hF hS; intro a w hF hS
    refine hK8 _ _ ?_
    clear hK8
    refine regl ?_
    refine wpl_sq hF hS (sq rfl (q_move rfl) <|
        sq rfl (q_move rfl) <|
        sq_end) ?_
    clear hF hS; intro a w hF hS
    refine wpl_ef hF hS rfl (ef_call fn14 rfl (fun w hS => wint_ct _ w )) ?_
    clear hF hS; rintro v3 _ _ a w ⟨_, _, rfl, rfl, rfl, rfl⟩ hF hS
    replace hS : St _ [] [_, _] _ := hS
    refine wpl_ef hF hS rfl (ef_append ty28 ty5 1 rfl rfl rfl (src_row ty28 (k := 0) rfl (by first | ((repeat first | ((with_reducible refine oc_map ?_); intro _; rfl) | (with_reducible refine oc_app ?_ ?_) | ((with_reducible refine oc_cons ?_ ?_); rfl) | (with_reducible exact oc_nil) | ((with_reducible refine oc_rep ?_); rfl)); done) | (simp [Value.oneCell']; done) | (simp; decide))) (by first | omega | (rw [List.length_map]; omega) | (simp; omega) | (simp [*]; done) | decide | (simp [*]; omega)) rfl (by decide)) ?_
    clear hF hS; rintro v5 _ _ a w ⟨rfl, rfl⟩ hF hS
    replace hS : St _ [] [_, _] _ := hS
    refine wpl_sq hF hS (sq rfl (q_assign rfl) <|
        sq_end) ?_
    clear hF hS; intro a w hF hS
    refine wpList_nil ?_
    refine hK7 _ _ ?_
    clear hK7
    refine reg hF hS (sq rfl (q_addi rfl rfl (by omega)) <|
        sq rfl (q_move rfl) <|
        sq_end) ?_
    clear hF hS; intro a w hF hS
    replace hS := hS.keep (List.nil_sublist _) ((List.Sublist.refl _).cons _)
    refine ⟨(v5, i + 1), ?_, ?_, hF.sub ⟨rfl, rfl, rfl, rfl, trivial⟩, ?_⟩
    · (try dsimp only); omega
    · (try dsimp only); omega
    · rw [← List.map_append, ← List.length_append, Ls.encT_step Wi.int 0 l i.toNat (by omega), show i.toNat + 1 = (i + 1).toNat by omega] at hS
      exact hS
  · obtain rfl : i = l.length := by omega
    rw [Int.toNat_natCast, Ls.encT_all, ints_def] at hS
    refine wp_exit ?_
    refine hK3 _ _ ?_
    clear hK3
    refine wp_seq_k ?_; intro K9 hK9
    refine reg hF hS (sq rfl (q_move rfl) <|
        sq rfl (q_assign rfl) <|
        sq_end) ?_
    clear hF hS; intro a w hF hS
    refine hK9 _ _ ?_
    clear hK9
    refine wp_ret ?_
    exact fn_ret (rs := [.tmp 2]) rfl hF hS (vs := [_]) ⟨rfl, trivial⟩ (List.nil_sublist _) (List.Sublist.refl _) ⟨rfl, rfl⟩

set_option maxHeartbeats 2000000 in
theorem rints_ct (v : Value) (l : List Int) (hl : l.length < 1048576) (w : World) (hb : Sl encI (ph w) v l) : Ct Try.prog 19 [v] w (fun v zs hs => zs = [] ∧ hs = [.row v 5 1 (Wi.ints l).length ((Wi.ints l).map vb)]) := by
  refine fn_enter Try.func19 rfl Try.ntmps19 (Nat.le_of_ble_eq_true rfl) fun a hF hS => ?_
  have hil := Wi.int_len9 l.length
  have hbound : ∀ i, (Ls.encT Wi.int l i).length ≤ 9 + l.length * 9 := Ls.encT_len Wi.int l 9 (fun x _ => (Wi.int_len9 x).2)
  refine wp_seq_k ?_; intro K1 hK1
  refine reg hF hS (sq rfl (q_assign rfl) <|
      sq_end) ?_
  clear hF hS; intro a w hF hS
  refine hK1 _ _ ?_
  clear hK1
  refine wp_seq_k ?_; intro K2 hK2
  refine regl ?_
  refine wpl_sq hF hS (sq rfl (q_move rfl) <|
      sq rfl (q_len_sl ty22 hb rfl) <|
      sq_end) ?_
  clear hF hS; intro a w hF hS
  refine wpl_ef hF hS rfl (ef_call fn15 rfl (fun w hS => rint_ct _ (by omega) w )) ?_
  clear hF hS; rintro v1 _ _ a w ⟨_, _, rfl, rfl, rfl, rfl⟩ hF hS
  replace hS : St _ [] [_] _ := hS
  refine wpl_sq hF hS (sq rfl (q_assign rfl) <|
      sq_end) ?_
  clear hF hS; intro a w hF hS
  refine wpList_nil ?_
  refine hK2 _ _ ?_
  clear hK2
  refine wp_seq_k ?_; intro K3 hK3
  refine wp_seq_k ?_; intro K4 hK4
  refine reg hF hS (sq rfl (q_assign rfl) <|
      sq_end) ?_
  clear hF hS; intro a w hF hS
  refine hK4 _ _ ?_
  clear hK4
  refine wp_block ?_
  obtain ⟨hs0, hhs0, hS⟩ : ∃ h, h = _ ∧ St _ _ h _ := ⟨_, rfl, hS⟩
  refine wp_loopx (γ := Value × Int) (v1, 0) (fun (gg : Value × Int) => match gg with | (u, i) => [(3, u), (4, vi i)]) [(0, _)] (fun (gg : Value × Int) => match gg with | (u, i) => (hs0.set 0 (.row u 5 1 (Ls.encT Wi.int l i.toNat).length ((Ls.encT Wi.int l i.toNat).map vb)))) (fun (gg : Value × Int) => match gg with | (u, i) => 0 ≤ i ∧ i ≤ l.length) (fun (gg : Value × Int) => match gg with | (u, i) => (l.length - i).toNat) (hF.sub ⟨rfl, rfl, rfl, trivial⟩) (by subst hhs0; dsimp only; rw [show (0 : Int).toNat = 0 from rfl, Ls.encT_0]; exact hS) (by exact ⟨Int.le_refl _, by omega⟩) ?_
  clear hF hS; rintro ⟨u, i⟩ a w hfact hF hS
  subst hhs0; (try dsimp only at hfact); (try dsimp only at hF); (try dsimp only at hS)
  obtain ⟨hi0, hi1⟩ := hfact
  replace hS : St _ [] [_] _ := hS
  have htl := hbound i.toNat
  refine wp_seq_k ?_; intro K5 hK5
  refine wp_seq_k ?_; intro K6 hK6
  refine reg hF hS (sq rfl (q_move rfl) <|
      sq rfl (q_move rfl) <|
      sq rfl (q_len_sl ty22 hb rfl) <|
      sq rfl (q_lti rfl rfl) <|
      sq_end) ?_
  clear hF hS; intro a w hF hS
  refine hK6 _ _ ?_
  clear hK6
  refine wp_ifd hF rfl (fun hc1 => ?_) (fun hc1 => ?_)
  · have hxl := Wi.int_len9 (l.getD i.toNat 0)
    have hxr := (hb.rep (i := i.toNat) (x := l.getD i.toNat 0) (Ls.getD_some 0 (by omega))).2
    refine wp_skip ?_
    refine hK5 _ _ ?_
    clear hK5
    refine wp_seq_k ?_; intro K7 hK7
    refine wp_block ?_
    refine regl ?_
    refine wpl_sq hF hS (sq rfl (q_move rfl) <|
        sq rfl (q_move rfl) <|
        sq rfl (q_move rfl) <|
        sq rfl (q_idx_sl ty22 ty3 hb rfl rfl (by omega)) <|
        sq rfl (q_ld_I ty3 hb zin0 rfl rfl (by omega)) <|
        sq_end) ?_
    clear hF hS; intro a w hF hS
    refine wpl_ef hF hS rfl (ef_call fn15 rfl (fun w hS => rint_ct _ (by omega) w )) ?_
    clear hF hS; rintro v3 _ _ a w ⟨_, _, rfl, rfl, rfl, rfl⟩ hF hS
    replace hS : St _ [] [_, _] _ := hS
    refine wpl_ef hF hS rfl (ef_append ty28 ty5 1 rfl rfl rfl (src_row ty28 (k := 0) rfl (by first | ((repeat first | ((with_reducible refine oc_map ?_); intro _; rfl) | (with_reducible refine oc_app ?_ ?_) | ((with_reducible refine oc_cons ?_ ?_); rfl) | (with_reducible exact oc_nil) | ((with_reducible refine oc_rep ?_); rfl)); done) | (simp [Value.oneCell']; done) | (simp; decide))) (by first | omega | (rw [List.length_map]; omega) | (simp; omega) | (simp [*]; done) | decide | (simp [*]; omega)) rfl (by decide)) ?_
    clear hF hS; rintro v5 _ _ a w ⟨rfl, rfl⟩ hF hS
    replace hS : St _ [] [_, _] _ := hS
    refine wpl_sq hF hS (sq rfl (q_assign rfl) <|
        sq_end) ?_
    clear hF hS; intro a w hF hS
    refine wpList_nil ?_
    refine hK7 _ _ ?_
    clear hK7
    refine reg hF hS (sq rfl (q_move rfl) <|
        sq rfl (q_addi rfl rfl (by omega)) <|
        sq rfl (q_assign rfl) <|
        sq_end) ?_
    clear hF hS; intro a w hF hS
    replace hS := hS.keep (List.nil_sublist _) ((List.Sublist.refl _).cons _)
    refine ⟨(v5, i + 1), ?_, ?_, hF.sub ⟨rfl, rfl, rfl, trivial⟩, ?_⟩
    · (try dsimp only); omega
    · (try dsimp only); omega
    · rw [← List.map_append, ← List.length_append, Ls.encT_step Wi.int 0 l i.toNat (by omega), show i.toNat + 1 = (i + 1).toNat by omega] at hS
      exact hS
  · obtain rfl : i = l.length := by omega
    rw [Int.toNat_natCast, Ls.encT_all, ints_def] at hS
    refine wp_exit ?_
    refine hK3 _ _ ?_
    clear hK3
    refine wp_seq_k ?_; intro K8 hK8
    refine reg hF hS (sq rfl (q_move rfl) <|
        sq rfl (q_assign rfl) <|
        sq_end) ?_
    clear hF hS; intro a w hF hS
    refine hK8 _ _ ?_
    clear hK8
    refine wp_ret ?_
    exact fn_ret (rs := [.tmp 2]) rfl hF hS (vs := [_]) ⟨rfl, trivial⟩ (List.nil_sublist _) (List.Sublist.refl _) ⟨rfl, rfl⟩

set_option maxHeartbeats 2000000 in
theorem wstrs_ct (v : Value) (l : List (List UInt8)) (hl : l.length < 1048576) (hp : ∀ p ∈ l, p.length < 1048576) (w : World) (hb : Sl encS (ph w) v l) : Ct Try.prog 20 [v] w (fun v zs hs => zs = [] ∧ hs = [.row v 5 1 (Wi.strs l).length ((Wi.strs l).map vb)]) := by
  refine fn_enter Try.func20 rfl Try.ntmps20 (Nat.le_of_ble_eq_true rfl) fun a hF hS => ?_
  have hil := Wi.int_len9 l.length
  have hbound : ∀ i, (Ls.encT Wi.bytes l i).length ≤ 9 + l.length * 1048585 := Ls.encT_len Wi.bytes l 1048585 (fun x hx => by have h1 := Wi.bytes_len x; have h2 := hp x hx; omega)
  refine wp_seq_k ?_; intro K1 hK1
  refine reg hF hS (sq rfl (q_assign rfl) <|
      sq_end) ?_
  clear hF hS; intro a w hF hS
  refine hK1 _ _ ?_
  clear hK1
  refine wp_seq_k ?_; intro K2 hK2
  refine regl ?_
  refine wpl_sq hF hS (sq rfl (q_move rfl) <|
      sq rfl (q_len_sl ty23 hb rfl) <|
      sq_end) ?_
  clear hF hS; intro a w hF hS
  refine wpl_ef hF hS rfl (ef_call fn14 rfl (fun w hS => wint_ct _ w )) ?_
  clear hF hS; rintro v1 _ _ a w ⟨_, _, rfl, rfl, rfl, rfl⟩ hF hS
  replace hS : St _ [] [_] _ := hS
  refine wpl_sq hF hS (sq rfl (q_assign rfl) <|
      sq_end) ?_
  clear hF hS; intro a w hF hS
  refine wpList_nil ?_
  refine hK2 _ _ ?_
  clear hK2
  refine wp_seq_k ?_; intro K3 hK3
  refine wp_seq_k ?_; intro K4 hK4
  refine reg hF hS (sq rfl (q_move rfl) <|
      sq rfl (q_len_sl ty23 hb rfl) <|
      sq rfl (q_move rfl) <|
      sq_end) ?_
  clear hF hS; intro a w hF hS
  refine hK4 _ _ ?_
  clear hK4
  refine wp_block ?_
  obtain ⟨hs0, hhs0, hS⟩ : ∃ h, h = _ ∧ St _ _ h _ := ⟨_, rfl, hS⟩
  refine wp_loopx (γ := Value × Int) (v1, 0) (fun (gg : Value × Int) => match gg with | (u, i) => [(3, u), (11, vi i)]) [(9, _), (10, _)] (fun (gg : Value × Int) => match gg with | (u, i) => (hs0.set 0 (.row u 5 1 (Ls.encT Wi.bytes l i.toNat).length ((Ls.encT Wi.bytes l i.toNat).map vb)))) (fun (gg : Value × Int) => match gg with | (u, i) => 0 ≤ i ∧ i ≤ l.length) (fun (gg : Value × Int) => match gg with | (u, i) => (l.length - i).toNat) (hF.sub ⟨rfl, rfl, rfl, rfl, trivial⟩) (by subst hhs0; dsimp only; rw [show (0 : Int).toNat = 0 from rfl, Ls.encT_0]; exact hS) (by exact ⟨Int.le_refl _, by omega⟩) ?_
  clear hF hS; rintro ⟨u, i⟩ a w hfact hF hS
  subst hhs0; (try dsimp only at hfact); (try dsimp only at hF); (try dsimp only at hS)
  obtain ⟨hi0, hi1⟩ := hfact
  replace hS : St _ [] [_] _ := hS
  have htl := hbound i.toNat
  refine wp_seq_k ?_; intro K5 hK5
  refine reg hF hS (sq rfl (q_lti rfl rfl) <|
      sq_end) ?_
  clear hF hS; intro a w hF hS
  refine hK5 _ _ ?_
  clear hK5
  refine wp_seq_k ?_; intro K6 hK6
  refine wp_ifd hF rfl (fun hc1 => ?_) (fun hc1 => ?_)
  · have hpi := hp _ (Sha.getD_mem l i.toNat (by omega))
    have hxl := Wi.bytes_len (l.getD i.toNat [])
    refine wp_skip ?_
    refine hK6 _ _ ?_
    clear hK6
    refine wp_seq_k ?_; intro K7 hK7
    refine wp_block ?_
    refine wp_seq_k ?_; intro K8 hK8
    refine reg hF hS (sq rfl (q_idx_sl ty23 ty9 hb rfl rfl (by omega)) <|
        sq rfl (q_ld_S ty9 hb zin0 rfl rfl (by omega)) <|
        sq rfl (q_assign rfl) <|
        sq_end) ?_
    clear hF hS; intro a w hF hS
    refine hK8 _ _ ?_
    clear hK8
    refine regl ?_
    refine wpl_sq hF hS (sq rfl (q_move rfl) <|
        sq rfl (q_move rfl) <|
        sq_end) ?_
    clear hF hS; intro a w hF hS
    refine wpl_ef hF hS rfl (ef_call fn16 rfl (fun w hS => wbytes_ct _ (by first | assumption | omega) w )) ?_
    clear hF hS; rintro v3 _ _ a w ⟨_, _, rfl, rfl, rfl, rfl⟩ hF hS
    replace hS : St _ [] [_, _] _ := hS
    refine wpl_ef hF hS rfl (ef_append ty28 ty5 1 rfl rfl rfl (src_row ty28 (k := 0) rfl (by first | ((repeat first | ((with_reducible refine oc_map ?_); intro _; rfl) | (with_reducible refine oc_app ?_ ?_) | ((with_reducible refine oc_cons ?_ ?_); rfl) | (with_reducible exact oc_nil) | ((with_reducible refine oc_rep ?_); rfl)); done) | (simp [Value.oneCell']; done) | (simp; decide))) (by first | omega | (rw [List.length_map]; omega) | (simp; omega) | (simp [*]; done) | decide | (simp [*]; omega)) rfl (by decide)) ?_
    clear hF hS; rintro v5 _ _ a w ⟨rfl, rfl⟩ hF hS
    replace hS : St _ [] [_, _] _ := hS
    refine wpl_sq hF hS (sq rfl (q_assign rfl) <|
        sq_end) ?_
    clear hF hS; intro a w hF hS
    refine wpList_nil ?_
    refine hK7 _ _ ?_
    clear hK7
    refine reg hF hS (sq rfl (q_addi rfl rfl (by omega)) <|
        sq rfl (q_move rfl) <|
        sq_end) ?_
    clear hF hS; intro a w hF hS
    replace hS := hS.keep (List.nil_sublist _) ((List.Sublist.refl _).cons _)
    refine ⟨(v5, i + 1), ?_, ?_, hF.sub ⟨rfl, rfl, rfl, rfl, trivial⟩, ?_⟩
    · (try dsimp only); omega
    · (try dsimp only); omega
    · rw [← List.map_append, ← List.length_append, Ls.encT_step Wi.bytes [] l i.toNat (by omega), show i.toNat + 1 = (i + 1).toNat by omega] at hS
      exact hS
  · obtain rfl : i = l.length := by omega
    rw [Int.toNat_natCast, Ls.encT_all, strs_def] at hS
    refine wp_exit ?_
    refine hK3 _ _ ?_
    clear hK3
    refine wp_seq_k ?_; intro K9 hK9
    refine reg hF hS (sq rfl (q_move rfl) <|
        sq rfl (q_assign rfl) <|
        sq_end) ?_
    clear hF hS; intro a w hF hS
    refine hK9 _ _ ?_
    clear hK9
    refine wp_ret ?_
    exact fn_ret (rs := [.tmp 2]) rfl hF hS (vs := [_]) ⟨rfl, trivial⟩ (List.nil_sublist _) (List.Sublist.refl _) ⟨rfl, rfl⟩

set_option maxHeartbeats 2000000 in
theorem rstrs_ct (v : Value) (l : List (List UInt8)) (hl : l.length < 1048576) (hp : ∀ p ∈ l, p.length < 1048576) (w : World) (hb : Sl encS (ph w) v l) : Ct Try.prog 21 [v] w (fun v zs hs => zs = [] ∧ hs = [.row v 5 1 (Wi.strs l).length ((Wi.strs l).map vb)]) := by
  refine fn_enter Try.func21 rfl Try.ntmps21 (Nat.le_of_ble_eq_true rfl) fun a hF hS => ?_
  have hil := Wi.int_len9 l.length
  have hbound : ∀ i, (Ls.encT Wi.bytes l i).length ≤ 9 + l.length * 1048585 := Ls.encT_len Wi.bytes l 1048585 (fun x hx => by have h1 := Wi.bytes_len x; have h2 := hp x hx; omega)
  refine wp_seq_k ?_; intro K1 hK1
  refine reg hF hS (sq rfl (q_assign rfl) <|
      sq_end) ?_
  clear hF hS; intro a w hF hS
  refine hK1 _ _ ?_
  clear hK1
  refine wp_seq_k ?_; intro K2 hK2
  refine regl ?_
  refine wpl_sq hF hS (sq rfl (q_move rfl) <|
      sq rfl (q_len_sl ty23 hb rfl) <|
      sq_end) ?_
  clear hF hS; intro a w hF hS
  refine wpl_ef hF hS rfl (ef_call fn15 rfl (fun w hS => rint_ct _ (by omega) w )) ?_
  clear hF hS; rintro v1 _ _ a w ⟨_, _, rfl, rfl, rfl, rfl⟩ hF hS
  replace hS : St _ [] [_] _ := hS
  refine wpl_sq hF hS (sq rfl (q_assign rfl) <|
      sq_end) ?_
  clear hF hS; intro a w hF hS
  refine wpList_nil ?_
  refine hK2 _ _ ?_
  clear hK2
  refine wp_seq_k ?_; intro K3 hK3
  refine wp_seq_k ?_; intro K4 hK4
  refine reg hF hS (sq rfl (q_assign rfl) <|
      sq_end) ?_
  clear hF hS; intro a w hF hS
  refine hK4 _ _ ?_
  clear hK4
  refine wp_block ?_
  obtain ⟨hs0, hhs0, hS⟩ : ∃ h, h = _ ∧ St _ _ h _ := ⟨_, rfl, hS⟩
  refine wp_loopx (γ := Value × Int) (v1, 0) (fun (gg : Value × Int) => match gg with | (u, i) => [(3, u), (4, vi i)]) [(0, _)] (fun (gg : Value × Int) => match gg with | (u, i) => (hs0.set 0 (.row u 5 1 (Ls.encT Wi.bytes l i.toNat).length ((Ls.encT Wi.bytes l i.toNat).map vb)))) (fun (gg : Value × Int) => match gg with | (u, i) => 0 ≤ i ∧ i ≤ l.length) (fun (gg : Value × Int) => match gg with | (u, i) => (l.length - i).toNat) (hF.sub ⟨rfl, rfl, rfl, trivial⟩) (by subst hhs0; dsimp only; rw [show (0 : Int).toNat = 0 from rfl, Ls.encT_0]; exact hS) (by exact ⟨Int.le_refl _, by omega⟩) ?_
  clear hF hS; rintro ⟨u, i⟩ a w hfact hF hS
  subst hhs0; (try dsimp only at hfact); (try dsimp only at hF); (try dsimp only at hS)
  obtain ⟨hi0, hi1⟩ := hfact
  replace hS : St _ [] [_] _ := hS
  have htl := hbound i.toNat
  refine wp_seq_k ?_; intro K5 hK5
  refine wp_seq_k ?_; intro K6 hK6
  refine reg hF hS (sq rfl (q_move rfl) <|
      sq rfl (q_move rfl) <|
      sq rfl (q_len_sl ty23 hb rfl) <|
      sq rfl (q_lti rfl rfl) <|
      sq_end) ?_
  clear hF hS; intro a w hF hS
  refine hK6 _ _ ?_
  clear hK6
  refine wp_ifd hF rfl (fun hc1 => ?_) (fun hc1 => ?_)
  · have hpi := hp _ (Sha.getD_mem l i.toNat (by omega))
    have hxl := Wi.bytes_len (l.getD i.toNat [])
    refine wp_skip ?_
    refine hK5 _ _ ?_
    clear hK5
    refine wp_seq_k ?_; intro K7 hK7
    refine wp_block ?_
    refine regl ?_
    refine wpl_sq hF hS (sq rfl (q_move rfl) <|
        sq rfl (q_move rfl) <|
        sq rfl (q_move rfl) <|
        sq rfl (q_idx_sl ty23 ty9 hb rfl rfl (by omega)) <|
        sq rfl (q_ld_S ty9 hb zin0 rfl rfl (by omega)) <|
        sq_end) ?_
    clear hF hS; intro a w hF hS
    refine wpl_ef hF hS rfl (ef_call fn17 rfl (fun w hS => rbytes_ct _ (by first | with_reducible assumption | omega) w )) ?_
    clear hF hS; rintro v3 _ _ a w ⟨_, _, rfl, rfl, rfl, rfl⟩ hF hS
    replace hS : St _ [] [_, _] _ := hS
    refine wpl_ef hF hS rfl (ef_append ty28 ty5 1 rfl rfl rfl (src_row ty28 (k := 0) rfl (by first | ((repeat first | ((with_reducible refine oc_map ?_); intro _; rfl) | (with_reducible refine oc_app ?_ ?_) | ((with_reducible refine oc_cons ?_ ?_); rfl) | (with_reducible exact oc_nil) | ((with_reducible refine oc_rep ?_); rfl)); done) | (simp [Value.oneCell']; done) | (simp; decide))) (by first | omega | (rw [List.length_map]; omega) | (simp; omega) | (simp [*]; done) | decide | (simp [*]; omega)) rfl (by decide)) ?_
    clear hF hS; rintro v5 _ _ a w ⟨rfl, rfl⟩ hF hS
    replace hS : St _ [] [_, _] _ := hS
    refine wpl_sq hF hS (sq rfl (q_assign rfl) <|
        sq_end) ?_
    clear hF hS; intro a w hF hS
    refine wpList_nil ?_
    refine hK7 _ _ ?_
    clear hK7
    refine reg hF hS (sq rfl (q_move rfl) <|
        sq rfl (q_addi rfl rfl (by omega)) <|
        sq rfl (q_assign rfl) <|
        sq_end) ?_
    clear hF hS; intro a w hF hS
    replace hS := hS.keep (List.nil_sublist _) ((List.Sublist.refl _).cons _)
    refine ⟨(v5, i + 1), ?_, ?_, hF.sub ⟨rfl, rfl, rfl, trivial⟩, ?_⟩
    · (try dsimp only); omega
    · (try dsimp only); omega
    · rw [← List.map_append, ← List.length_append, Ls.encT_step Wi.bytes [] l i.toNat (by omega), show i.toNat + 1 = (i + 1).toNat by omega] at hS
      exact hS
  · obtain rfl : i = l.length := by omega
    rw [Int.toNat_natCast, Ls.encT_all, strs_def] at hS
    refine wp_exit ?_
    refine hK3 _ _ ?_
    clear hK3
    refine wp_seq_k ?_; intro K8 hK8
    refine reg hF hS (sq rfl (q_move rfl) <|
        sq rfl (q_assign rfl) <|
        sq_end) ?_
    clear hF hS; intro a w hF hS
    refine hK8 _ _ ?_
    clear hK8
    refine wp_ret ?_
    exact fn_ret (rs := [.tmp 2]) rfl hF hS (vs := [_]) ⟨rfl, trivial⟩ (List.nil_sublist _) (List.Sublist.refl _) ⟨rfl, rfl⟩

set_option maxHeartbeats 2000000 in
theorem wdigs_ct (v : Value) (l : List (List UInt8)) (hl : l.length < 1048576) (w : World) (hb : Sl (encA 16) (ph w) v l) : Ct Try.prog 22 [v] w (fun v zs hs => zs = [] ∧ hs = [.row v 5 1 (Wi.dgs l).length ((Wi.dgs l).map vb)]) := by
  refine fn_enter Try.func22 rfl Try.ntmps22 (Nat.le_of_ble_eq_true rfl) fun a hF hS => ?_
  have hil := Wi.int_len9 l.length
  have h16 : ∀ i, i < l.length → (l.getD i []).length = 16 := fun i hi => (hb.rep (i := i) (x := l.getD i []) (by simp [hi])).1
  have hbound : ∀ i, (Ls.encT (fun x => x) l i).length ≤ 9 + l.length * 16 := Ls.encT_len (fun x => x) l 16 (fun x hx => by obtain ⟨j, hj, rfl⟩ := List.mem_iff_getElem.1 hx; have := h16 j hj; rw [List.getD_eq_getElem?_getD, List.getElem?_eq_getElem hj] at this; exact Nat.le_of_eq this)
  refine wp_seq_k ?_; intro K1 hK1
  refine reg hF hS (sq rfl (q_assign rfl) <|
      sq_end) ?_
  clear hF hS; intro a w hF hS
  refine hK1 _ _ ?_
  clear hK1
  refine wp_seq_k ?_; intro K2 hK2
  refine regl ?_
  refine wpl_sq hF hS (sq rfl (q_move rfl) <|
      sq rfl (q_len_sl ty24 hb rfl) <|
      sq_end) ?_
  clear hF hS; intro a w hF hS
  refine wpl_ef hF hS rfl (ef_call fn14 rfl (fun w hS => wint_ct _ w )) ?_
  clear hF hS; rintro v1 _ _ a w ⟨_, _, rfl, rfl, rfl, rfl⟩ hF hS
  replace hS : St _ [] [_] _ := hS
  refine wpl_sq hF hS (sq rfl (q_assign rfl) <|
      sq_end) ?_
  clear hF hS; intro a w hF hS
  refine wpList_nil ?_
  refine hK2 _ _ ?_
  clear hK2
  refine wp_seq_k ?_; intro K3 hK3
  refine wp_seq_k ?_; intro K4 hK4
  refine reg hF hS (sq rfl (q_move rfl) <|
      sq rfl (q_len_sl ty24 hb rfl) <|
      sq rfl (q_move rfl) <|
      sq_end) ?_
  clear hF hS; intro a w hF hS
  refine hK4 _ _ ?_
  clear hK4
  refine wp_block ?_
  obtain ⟨hs0, hhs0, hS⟩ : ∃ h, h = _ ∧ St _ _ h _ := ⟨_, rfl, hS⟩
  refine wp_loopx (γ := Value × Int) (v1, 0) (fun (gg : Value × Int) => match gg with | (u, i) => [(3, u), (11, vi i)]) [(9, _), (10, _)] (fun (gg : Value × Int) => match gg with | (u, i) => (hs0.set 0 (.row u 5 1 (Ls.encT (fun x => x) l i.toNat).length ((Ls.encT (fun x => x) l i.toNat).map vb)))) (fun (gg : Value × Int) => match gg with | (u, i) => 0 ≤ i ∧ i ≤ l.length) (fun (gg : Value × Int) => match gg with | (u, i) => (l.length - i).toNat) (hF.sub ⟨rfl, rfl, rfl, rfl, trivial⟩) (by subst hhs0; dsimp only; rw [show (0 : Int).toNat = 0 from rfl, Ls.encT_0]; exact hS) (by exact ⟨Int.le_refl _, by omega⟩) ?_
  clear hF hS; rintro ⟨u, i⟩ a w hfact hF hS
  subst hhs0; (try dsimp only at hfact); (try dsimp only at hF); (try dsimp only at hS)
  obtain ⟨hi0, hi1⟩ := hfact
  replace hS : St _ [] [_] _ := hS
  have htl := hbound i.toNat
  refine wp_seq_k ?_; intro K5 hK5
  refine reg hF hS (sq rfl (q_lti rfl rfl) <|
      sq_end) ?_
  clear hF hS; intro a w hF hS
  refine hK5 _ _ ?_
  clear hK5
  refine wp_seq_k ?_; intro K6 hK6
  refine wp_ifd hF rfl (fun hc1 => ?_) (fun hc1 => ?_)
  · have h16i := h16 i.toNat (by omega)
    refine wp_skip ?_
    refine hK6 _ _ ?_
    clear hK6
    refine wp_seq_k ?_; intro K7 hK7
    refine wp_block ?_
    refine wp_seq_k ?_; intro K8 hK8
    refine regl ?_
    refine wpl_sq hF hS (sq rfl (q_idx_sl ty24 ty57 hb rfl rfl (by omega)) <|
        sq rfl (q_ld_AB ty57 hb zin0 rfl rfl (by decide) (by omega)) <|
        sq_end) ?_
    clear hF hS; intro a w hF hS
    refine wpl_ef hF hS rfl (ef_allocA ty57) ?_
    clear hF hS; rintro _ _ _ a w ⟨b3, rfl, rfl, rfl⟩ hF hS
    rw [show List.replicate 16 (Value.int .u8 0) = (List.replicate 16 (0 : UInt8)).map vb from by rw [List.map_replicate]; rfl] at hS
    refine wpl_ef hF hS rfl (ef_storeW ty57 0 rfl rfl rfl rfl (by first | omega | (rw [List.length_map]; omega) | (simp; omega) | (simp [*]; done) | decide | (simp [*]; omega)) (by first | ((repeat first | ((with_reducible refine oc_map ?_); intro _; rfl) | (with_reducible refine oc_app ?_ ?_) | ((with_reducible refine oc_cons ?_ ?_); rfl) | (with_reducible exact oc_nil) | ((with_reducible refine oc_rep ?_); rfl)); done) | (simp [Value.oneCell']; done) | (simp; decide)) (by first | omega | (rw [List.length_map]; omega) | (simp; omega) | (simp [*]; done) | decide | (simp [*]; omega))) ?_
    clear hF hS; rintro _ _ _ a w ⟨rfl, rfl, rfl⟩ hF hS
    replace hS : St _ [] [_, _] _ := hS
    refine wpList_nil ?_
    refine hK8 _ _ ?_
    clear hK8
    refine regl ?_
    refine wpl_sq hF hS (sq rfl (q_move rfl) <|
        sq rfl (q_sla ty57 ty5 rfl) <|
        sq_end) ?_
    clear hF hS; intro a w hF hS
    refine wpl_ef hF hS rfl (ef_append ty28 ty5 1 rfl rfl rfl (src_blkM ty28 (k := 0) rfl (by first | ((repeat first | ((with_reducible refine oc_map ?_); intro _; rfl) | (with_reducible refine oc_app ?_ ?_) | ((with_reducible refine oc_cons ?_ ?_); rfl) | (with_reducible exact oc_nil) | ((with_reducible refine oc_rep ?_); rfl)); done) | (simp [Value.oneCell']; done) | (simp; decide)) (by first | rfl | omega | (simp; omega))) (by first | omega | (rw [List.length_map]; omega) | (simp; omega) | (simp [*]; done) | decide | (simp [*]; omega)) rfl (by decide)) ?_
    clear hF hS; rintro v4 _ _ a w ⟨rfl, rfl⟩ hF hS
    replace hS : St _ [] [_, _] _ := hS
    refine wpl_sq hF hS (sq rfl (q_assign rfl) <|
        sq_end) ?_
    clear hF hS; intro a w hF hS
    refine wpList_nil ?_
    refine hK7 _ _ ?_
    clear hK7
    refine reg hF hS (sq rfl (q_addi rfl rfl (by omega)) <|
        sq rfl (q_move rfl) <|
        sq_end) ?_
    clear hF hS; intro a w hF hS
    replace hS := hS.keep (List.nil_sublist _) ((List.Sublist.refl _).cons _)
    refine ⟨(v4, i + 1), ?_, ?_, hF.sub ⟨rfl, rfl, rfl, rfl, trivial⟩, ?_⟩
    · (try dsimp only); omega
    · (try dsimp only); omega
    · rw [show (Ls.encT (fun x => x) l i.toNat).length + 16 = (Ls.encT (fun x => x) l i.toNat).length + (l.getD i.toNat []).length by rw [h16i]] at hS
      rw [← List.map_append, ← List.length_append, Ls.encT_step (fun x => x) [] l i.toNat (by omega), show i.toNat + 1 = (i + 1).toNat by omega] at hS
      exact hS
  · obtain rfl : i = l.length := by omega
    rw [Int.toNat_natCast, Ls.encT_all, dgs_def] at hS
    refine wp_exit ?_
    refine hK3 _ _ ?_
    clear hK3
    refine wp_seq_k ?_; intro K9 hK9
    refine reg hF hS (sq rfl (q_move rfl) <|
        sq rfl (q_assign rfl) <|
        sq_end) ?_
    clear hF hS; intro a w hF hS
    refine hK9 _ _ ?_
    clear hK9
    refine wp_ret ?_
    exact fn_ret (rs := [.tmp 2]) rfl hF hS (vs := [_]) ⟨rfl, trivial⟩ (List.nil_sublist _) (List.Sublist.refl _) ⟨rfl, rfl⟩
end Go.Proofs.Ytcolgcdnpfpcdaa
