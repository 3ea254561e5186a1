/- A text of a proof over this seat: walks over the program's functions and the plain laws that they need. -/
import Derived.Test.YtibbhobfdbfkkaaGreatDoorDwA
import Derived.Test.YtibbhobfdbfkkaaGreatDoorGuA
import Derived.Test.YtibbhobfdbfkkaaGreatDoorFwB
set_option linter.all false
namespace Go.Proofs.YtibbhobfdbfkkaaGreatDoor
open Go.Fw
theorem fn78 : FnOk Tryz.prog 78 := ⟨_, Tryz.func78, rfl, by kernel_rfl⟩

set_option maxRecDepth 4000 in
set_option maxHeartbeats 2000000 in
theorem samei_ct (v1 v2 : Value) (xa xb : List Int) (w : World) (hb1 : Sl Go.Fw.encI (ph w) v1 xa) (hb2 : Sl Go.Fw.encI (ph w) v2 xb) : Ct Tryz.prog 23 [v1, v2] w (fun r _ _ => r = .bool (decide (xa = xb))) := by
  refine fn_enter Tryz.func23 rfl Tryz.ntmps23 (Nat.le_of_ble_eq_true rfl) fun a hF hS => ?_
  have hla := hb1.1
  have hlb := hb2.1
  refine wp_seq_k ?_; intro K1 hK1
  refine reg hF hS (sq rfl (q_assign rfl) <|
      sq_end) ?_
  clear hF hS; intro a w hF hS
  refine hK1 _ _ ?_
  clear hK1
  refine wp_seq_k ?_; intro K2 hK2
  refine wp_seq_k ?_; intro K3 hK3
  refine reg hF hS (sq rfl (q_move rfl) <|
      sq rfl (q_len_sl ty51 hb1 rfl) <|
      sq rfl (q_move rfl) <|
      sq rfl (q_len_sl ty51 hb2 rfl) <|
      sq rfl (q_nei rfl rfl) <|
      sq_end) ?_
  clear hF hS; intro a w hF hS
  refine hK3 _ _ ?_
  clear hK3
  refine wp_ifn hF rfl (fun hc1 => ?_) (fun hc1 => ?_)
  · refine wp_seq_k ?_; intro K4 hK4
    refine reg hF hS (sq rfl (q_assign rfl) <|
        sq_end) ?_
    clear hF hS; intro a w hF hS
    refine hK4 _ _ ?_
    clear hK4
    refine wp_ret ?_
    exact fn_ret (rs := [.tmp 4]) rfl hF hS (vs := [_]) ⟨rfl, trivial⟩ (List.nil_sublist _) (List.nil_sublist _) (Ls.same_len hc1)
  · refine wp_skip ?_
    refine hK2 _ _ ?_
    clear hK2
    refine wp_seq_k ?_; intro K5 hK5
    refine wp_seq_k ?_; intro K6 hK6
    refine reg hF hS (sq rfl (q_assign rfl) <|
        sq_end) ?_
    clear hF hS; intro a w hF hS
    refine hK6 _ _ ?_
    clear hK6
    refine wp_block ?_
    obtain ⟨hs0, hhs0, hS⟩ : ∃ h, h = _ ∧ St _ _ h _ := ⟨_, rfl, hS⟩
    refine wp_loopx (γ := Int) (0) (fun (i : Int) => [(5, vi i)]) [(0, _), (1, _)] (fun (i : Int) => hs0) (fun (i : Int) => 0 ≤ i ∧ i ≤ xa.length ∧ xa.take i.toNat = xb.take i.toNat) (fun (i : Int) => (xa.length - i).toNat) (hF.sub ⟨rfl, rfl, rfl, trivial⟩) (by subst hhs0; exact hS) (by exact ⟨Int.le_refl _, by omega, rfl⟩) ?_
    clear hF hS; rintro i a w hfact hF hS
    subst hhs0; (try dsimp only at hfact); (try dsimp only at hF); (try dsimp only at hS)
    obtain ⟨hi0, hi1, htk⟩ := hfact
    replace hS : St _ [] [] _ := hS
    refine wp_seq_k ?_; intro K7 hK7
    refine wp_seq_k ?_; intro K8 hK8
    refine reg hF hS (sq rfl (q_move rfl) <|
        sq rfl (q_move rfl) <|
        sq rfl (q_len_sl ty51 hb1 rfl) <|
        sq rfl (q_lti rfl rfl) <|
        sq_end) ?_
    clear hF hS; intro a w hF hS
    refine hK8 _ _ ?_
    clear hK8
    refine wp_ifd hF rfl (fun hc2 => ?_) (fun hc2 => ?_)
    · have hi2 : i < xb.length := by omega
      refine wp_skip ?_
      refine hK7 _ _ ?_
      clear hK7
      refine wp_seq_k ?_; intro K9 hK9
      refine wp_block ?_
      refine wp_seq_k ?_; intro K10 hK10
      refine regd mixed (by kernel_rfl) hF hS (sq rfl (q_move rfl) <|
          sq rfl (q_move rfl) <|
          sq rfl (q_idx_sl ty51 ty3 hb1 rfl rfl (by omega)) <|
          sq rfl (q_ld_I ty3 hb1 zin0 rfl rfl (by omega)) <|
          sq rfl (q_move rfl) <|
          sq rfl (q_move rfl) <|
          sq rfl (q_idx_sl ty51 ty3 hb2 rfl rfl (by omega)) <|
          sq rfl (q_ld_I ty3 hb2 zin0 rfl rfl (by omega)) <|
          sq rfl (q_nei rfl rfl) <|
          sq_end) ?_
      clear hF hS; intro a w hF hS
      refine hK10 _ _ ?_
      clear hK10
      refine wp_ifn hF rfl (fun hc3 => ?_) (fun hc3 => ?_)
      · refine wp_seq_k ?_; intro K11 hK11
        refine reg hF hS (sq rfl (q_assign rfl) <|
            sq_end) ?_
        clear hF hS; intro a w hF hS
        refine hK11 _ _ ?_
        clear hK11
        refine wp_ret ?_
        exact fn_ret (rs := [.tmp 4]) rfl hF hS (vs := [_]) ⟨rfl, trivial⟩ (List.nil_sublist _) (List.nil_sublist _) (Ls.same_ne 0 hc3)
      · refine wp_skip ?_
        refine hK9 _ _ ?_
        clear hK9
        refine reg hF hS (sq rfl (q_move rfl) <|
            sq rfl (q_addi rfl rfl (by omega)) <|
            sq rfl (q_assign rfl) <|
            sq_end) ?_
        clear hF hS; intro a w hF hS
        refine ⟨(i + 1), ?_, ?_, hF.sub ⟨rfl, rfl, rfl, trivial⟩, ?_⟩
        · (try dsimp only); omega
        · refine ⟨by omega, by omega, Ls.same_step 0 hi0 (by omega) hc1 hc3 htk⟩
        · exact hS
    · refine wp_exit ?_
      refine hK5 _ _ ?_
      clear hK5
      refine wp_seq_k ?_; intro K12 hK12
      refine reg hF hS (sq rfl (q_assign rfl) <|
          sq_end) ?_
      clear hF hS; intro a w hF hS
      refine hK12 _ _ ?_
      clear hK12
      refine wp_ret ?_
      exact fn_ret (rs := [.tmp 4]) rfl hF hS (vs := [_]) ⟨rfl, trivial⟩ (List.nil_sublist _) (List.nil_sublist _) (Ls.same_eq hc1 hc2 htk)

set_option maxRecDepth 4000 in
set_option maxHeartbeats 2000000 in
theorem ix_ct (v : Value) (xs : List Int) (n : Int) (w : World) (hb : Sl Go.Fw.encI (ph w) v xs) : Ct Tryz.prog 78 [v, vi n] w (fun r _ _ => r = vi (Gu.ixF (fun y => decide (n = y)) xs)) := by
  refine fn_enter Tryz.func78 rfl Tryz.ntmps78 (Nat.le_of_ble_eq_true rfl) fun a hF hS => ?_
  have hbl := hb.1
  refine wp_seq_k ?_; intro K1 hK1
  refine reg hF hS (sq rfl (q_assign rfl) <|
      sq_end) ?_
  clear hF hS; intro a w hF hS
  refine hK1 _ _ ?_
  clear hK1
  refine wp_seq_k ?_; intro K2 hK2
  refine wp_seq_k ?_; intro K3 hK3
  refine reg hF hS (sq rfl (q_move rfl) <|
      sq rfl (q_len_sl ty51 hb rfl) <|
      sq rfl (q_move rfl) <|
      sq_end) ?_
  clear hF hS; intro a w hF hS
  refine hK3 _ _ ?_
  clear hK3
  refine wp_block ?_
  obtain ⟨hs0, hhs0, hS⟩ : ∃ h, h = _ ∧ St _ _ h _ := ⟨_, rfl, hS⟩
  refine wp_loopx (γ := Int) (0) (fun (i : Int) => [(8, vi i)]) [(0, _), (1, _), (7, _)] (fun (i : Int) => hs0) (fun (i : Int) => 0 ≤ i ∧ i ≤ xs.length ∧ ∀ j, j < i.toNat → (fun y => decide (n = y)) (xs.getD j 0) = false) (fun (i : Int) => (xs.length - i).toNat) (hF.sub ⟨rfl, rfl, rfl, rfl, trivial⟩) (by subst hhs0; exact hS) (by exact ⟨Int.le_refl _, by omega, fun j hj => absurd hj (by simp)⟩) ?_
  clear hF hS; rintro i a w hfact hF hS
  subst hhs0; (try dsimp only at hfact); (try dsimp only at hF); (try dsimp only at hS)
  obtain ⟨hi0, hi1, hno⟩ := hfact
  replace hS : St _ [] [] _ := hS
  refine wp_seq_k ?_; intro K4 hK4
  refine reg hF hS (sq rfl (q_lti rfl rfl) <|
      sq_end) ?_
  clear hF hS; intro a w hF hS
  refine hK4 _ _ ?_
  clear hK4
  refine wp_seq_k ?_; intro K5 hK5
  refine wp_ifd hF rfl (fun hc1 => ?_) (fun hc1 => ?_)
  · refine wp_skip ?_
    refine hK5 _ _ ?_
    clear hK5
    refine wp_seq_k ?_; intro K6 hK6
    refine wp_block ?_
    refine wp_seq_k ?_; intro K7 hK7
    refine reg hF hS (sq rfl (q_move rfl) <|
        sq rfl (q_assign rfl) <|
        sq_end) ?_
    clear hF hS; intro a w hF hS
    refine hK7 _ _ ?_
    clear hK7
    refine wp_seq_k ?_; intro K8 hK8
    refine reg hF hS (sq rfl (q_move rfl) <|
        sq rfl (q_move rfl) <|
        sq rfl (q_move rfl) <|
        sq rfl (q_idx_sl ty51 ty3 hb rfl rfl (by omega)) <|
        sq rfl (q_ld_I ty3 hb zin0 rfl rfl (by omega)) <|
        sq rfl (q_eqi rfl rfl) <|
        sq_end) ?_
    clear hF hS; intro a w hF hS
    refine hK8 _ _ ?_
    clear hK8
    refine wp_ifd hF rfl (fun hc2 => ?_) (fun hc2 => ?_)
    · refine wp_seq_k ?_; intro K9 hK9
      refine reg hF hS (sq rfl (q_move rfl) <|
          sq rfl (q_assign rfl) <|
          sq_end) ?_
      clear hF hS; intro a w hF hS
      refine hK9 _ _ ?_
      clear hK9
      refine wp_ret ?_
      exact fn_ret (rs := [.tmp 4]) rfl hF hS (vs := [_]) ⟨rfl, trivial⟩ (List.nil_sublist _) (List.nil_sublist _) (by rw [Gu.ixF_at (i := i.toNat) (by omega) (decide_eq_true hc2) hno, Int.toNat_of_nonneg hi0])
    · refine wp_skip ?_
      refine hK6 _ _ ?_
      clear hK6
      refine reg hF hS (sq rfl (q_addi rfl rfl (by omega)) <|
          sq rfl (q_move rfl) <|
          sq_end) ?_
      clear hF hS; intro a w hF hS
      refine ⟨(i + 1), ?_, ?_, hF.sub ⟨rfl, rfl, rfl, rfl, trivial⟩, ?_⟩
      · (try dsimp only); omega
      · exact ⟨by omega, by omega, Gu.none_step (p := (fun y => decide (n = y))) hi0 (decide_eq_false hc2) hno⟩
      · exact hS
  · refine wp_exit ?_
    refine hK2 _ _ ?_
    clear hK2
    refine wp_seq_k ?_; intro K10 hK10
    refine reg hF hS (sq rfl (q_assign rfl) <|
        sq_end) ?_
    clear hF hS; intro a w hF hS
    refine hK10 _ _ ?_
    clear hK10
    refine wp_ret ?_
    exact fn_ret (rs := [.tmp 4]) rfl hF hS (vs := [_]) ⟨rfl, trivial⟩ (List.nil_sublist _) (List.nil_sublist _) (by rw [Gu.ixF_no (fun j hj => hno j (by omega))])

set_option maxRecDepth 4000 in
set_option maxHeartbeats 2000000 in
theorem cont_ct (v : Value) (xs : List Int) (n : Int) (w : World) (hb : Sl Go.Fw.encI (ph w) v xs) : Ct Tryz.prog 51 [v, vi n] w (fun r _ _ => r = .bool (decide (n ∈ xs))) := by
  refine fn_enter Tryz.func51 rfl Tryz.ntmps51 (Nat.le_of_ble_eq_true rfl) fun a hF hS => ?_
  have hbl := hb.1
  refine wp_seq_k ?_; intro K1 hK1
  refine reg hF hS (sq rfl (q_assign rfl) <|
      sq_end) ?_
  clear hF hS; intro a w hF hS
  refine hK1 _ _ ?_
  clear hK1
  refine wp_seq_k ?_; intro K2 hK2
  refine reg hF hS (sq rfl (q_move rfl) <|
      sq rfl (q_move rfl) <|
      sq rfl (q_call fn78 rfl (fun w hS => ix_ct _ _ _ w (Sl.mono (hS.le zin0) hb)) (fun _ _ _ h => h)) <|
      sq rfl (q_gei rfl rfl) <|
      sq rfl (q_assign rfl) <|
      sq_end) ?_
  clear hF hS; intro a w hF hS
  refine hK2 _ _ ?_
  clear hK2
  refine wp_ret ?_
  exact fn_ret (rs := [.tmp 4]) rfl hF hS (vs := [_]) ⟨rfl, trivial⟩ (List.nil_sublist _) (List.nil_sublist _) (by rw [Gu.ixF_mem])
end Go.Proofs.YtibbhobfdbfkkaaGreatDoor
