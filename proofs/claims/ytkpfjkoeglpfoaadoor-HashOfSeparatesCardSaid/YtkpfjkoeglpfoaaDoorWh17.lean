/- A text of a proof over this seat: walks over the program's functions and the plain laws that they need. -/
import Derived.Test.YtkpfjkoeglpfoaaDoorWh16
set_option linter.all false
namespace Go.Proofs.YtkpfjkoeglpfoaaDoor
open Go.Fw


def fewB (ps : List (List UInt8)) : Bool := decide (ps.length ≤ 12 ∧ ∀ j, j < ps.length → (ps.getD j []).length ≤ 400)

set_option maxHeartbeats 2000000 in
theorem few_ct (v : Value) (ps : List (List UInt8)) (w : World) (hb : Sl encS (ph w) v ps) : Ct Tryd.prog 13 [v] w (fun r _ _ => r = .bool (fewB ps)) := by
  refine fn_enter Tryd.func13 rfl Tryd.ntmps13 (Nat.le_of_ble_eq_true rfl) fun a hF hS => ?_
  have hpl := hb.1
  refine wp_seq_k ?_; intro K1 hK1
  refine reg hF hS (sq rfl (q_assign rfl) <|
      sq_end) ?_
  clear hF hS; intro a w hF hS
  refine hK1 _ _ ?_
  clear hK1
  refine wp_seq_k ?_; intro K2 hK2
  refine wp_seq_k ?_; intro K3 hK3
  refine reg hF hS (sq rfl (q_move rfl) <|
      sq rfl (q_len_sl ty27 hb rfl) <|
      sq rfl (q_gti rfl rfl) <|
      sq_end) ?_
  clear hF hS; intro a w hF hS
  refine hK3 _ _ ?_
  clear hK3
  refine wp_ifd hF rfl (fun hc1 => ?_) (fun hc1 => ?_)
  · refine wp_seq_k ?_; intro K4 hK4
    refine reg hF hS (sq rfl (q_assign rfl) <|
        sq_end) ?_
    clear hF hS; intro a w hF hS
    refine hK4 _ _ ?_
    clear hK4
    refine wp_ret ?_
    exact fn_ret (rs := [.tmp 2]) rfl hF hS (vs := [_]) ⟨rfl, trivial⟩ (List.nil_sublist _) (List.nil_sublist _) (congrArg Value.bool (Eq.symm (decide_eq_false (fun h => by omega))))
  · refine wp_skip ?_
    refine hK2 _ _ ?_
    clear hK2
    refine wp_seq_k ?_; intro K5 hK5
    refine wp_seq_k ?_; intro K6 hK6
    refine reg hF hS (sq rfl (q_assign rfl) <|
        sq_end) ?_
    clear hF hS; intro a w hF hS
    refine hK6 _ _ ?_
    clear hK6
    refine wp_block ?_
    obtain ⟨hs0, hhs0, hS⟩ : ∃ h, h = _ ∧ St _ _ h _ := ⟨_, rfl, hS⟩
    refine wp_loopx (γ := Int) (0) (fun (i : Int) => [(3, vi i)]) [(0, _)] (fun (i : Int) => hs0) (fun (i : Int) => 0 ≤ i ∧ i ≤ ps.length ∧ ∀ j, j < i.toNat → (ps.getD j []).length ≤ 400) (fun (i : Int) => (ps.length - i).toNat) (hF.sub ⟨rfl, rfl, trivial⟩) (by subst hhs0; exact hS) (by exact ⟨Int.le_refl _, by omega, fun j h => absurd h (by omega)⟩) ?_
    clear hF hS; rintro i a w hfact hF hS
    subst hhs0; (try dsimp only at hfact); (try dsimp only at hF); (try dsimp only at hS)
    obtain ⟨hi0, hi1, hall⟩ := hfact
    replace hS : St _ [] [] _ := hS
    refine wp_seq_k ?_; intro K7 hK7
    refine wp_seq_k ?_; intro K8 hK8
    refine reg hF hS (sq rfl (q_move rfl) <|
        sq rfl (q_move rfl) <|
        sq rfl (q_len_sl ty27 hb rfl) <|
        sq rfl (q_lti rfl rfl) <|
        sq_end) ?_
    clear hF hS; intro a w hF hS
    refine hK8 _ _ ?_
    clear hK8
    refine wp_ifd hF rfl (fun hc2 => ?_) (fun hc2 => ?_)
    · refine wp_skip ?_
      refine hK7 _ _ ?_
      clear hK7
      refine wp_seq_k ?_; intro K9 hK9
      refine wp_block ?_
      refine wp_seq_k ?_; intro K10 hK10
      refine reg hF hS (sq rfl (q_move rfl) <|
          sq rfl (q_move rfl) <|
          sq rfl (q_idx_sl ty27 ty9 hb rfl rfl (by omega)) <|
          sq rfl (q_ld_S ty9 hb zin0 rfl rfl (by omega)) <|
          sq rfl (q_len_s ty9 rfl) <|
          sq rfl (q_gti rfl rfl) <|
          sq_end) ?_
      clear hF hS; intro a w hF hS
      refine hK10 _ _ ?_
      clear hK10
      refine wp_ifd hF rfl (fun hc3 => ?_) (fun hc3 => ?_)
      · refine wp_seq_k ?_; intro K11 hK11
        refine reg hF hS (sq rfl (q_assign rfl) <|
            sq_end) ?_
        clear hF hS; intro a w hF hS
        refine hK11 _ _ ?_
        clear hK11
        refine wp_ret ?_
        exact fn_ret (rs := [.tmp 2]) rfl hF hS (vs := [_]) ⟨rfl, trivial⟩ (List.nil_sublist _) (List.nil_sublist _) (congrArg Value.bool (Eq.symm (decide_eq_false (fun h => absurd (h.2 i.toNat (by omega)) (by omega)))))
      · refine wp_skip ?_
        refine hK9 _ _ ?_
        clear hK9
        refine reg hF hS (sq rfl (q_move rfl) <|
            sq rfl (q_addi rfl rfl (by omega)) <|
            sq rfl (q_assign rfl) <|
            sq_end) ?_
        clear hF hS; intro a w hF hS
        refine ⟨(i + 1), ?_, ?_, hF.sub ⟨rfl, rfl, trivial⟩, ?_⟩
        · (try dsimp only); omega
        · refine ⟨by omega, by omega, fun j hj => ?_⟩
          rcases Nat.lt_or_ge j i.toNat with h | h
          · exact hall j h
          · obtain rfl : j = i.toNat := by omega
            omega
        · exact hS
    · refine wp_exit ?_
      refine hK5 _ _ ?_
      clear hK5
      refine wp_seq_k ?_; intro K12 hK12
      refine reg hF hS (sq rfl (q_assign rfl) <|
          sq_end) ?_
      clear hF hS; intro a w hF hS
      refine hK12 _ _ ?_
      clear hK12
      refine wp_ret ?_
      exact fn_ret (rs := [.tmp 2]) rfl hF hS (vs := [_]) ⟨rfl, trivial⟩ (List.nil_sublist _) (List.nil_sublist _) (congrArg Value.bool (Eq.symm (decide_eq_true ⟨by omega, fun j hj => hall j (by omega)⟩)))

theorem flat_step (ps : List (List UInt8)) (i : Nat) (h : i < ps.length) : (ps.take (i + 1)).flatten = (ps.take i).flatten ++ ps.getD i [] := by
  rw [List.take_add_one, List.getElem?_eq_getElem h, List.flatten_append, List.getD_eq_getElem?_getD, List.getElem?_eq_getElem h]
  simp

set_option maxHeartbeats 2000000 in
theorem joined_ct (v : Value) (ps : List (List UInt8)) (hl : ∀ i, (ps.take i).flatten.length < 1099511627776) (w : World) (hb : Sl encS (ph w) v ps) : Ct Tryd.prog 16 [v] w (fun r _ _ => r = vs ps.flatten) := by
  refine fn_enter Tryd.func16 rfl Tryd.ntmps16 (Nat.le_of_ble_eq_true rfl) fun a hF hS => ?_
  have hpl := hb.1
  refine wp_seq_k ?_; intro K1 hK1
  refine reg hF hS (sq rfl (q_assign rfl) <|
      sq_end) ?_
  clear hF hS; intro a w hF hS
  refine hK1 _ _ ?_
  clear hK1
  refine wp_seq_k ?_; intro K2 hK2
  refine reg hF hS (sq rfl (q_assign rfl) <|
      sq_end) ?_
  clear hF hS; intro a w hF hS
  refine hK2 _ _ ?_
  clear hK2
  refine wp_seq_k ?_; intro K3 hK3
  refine wp_seq_k ?_; intro K4 hK4
  refine reg hF hS (sq rfl (q_assign rfl) <|
      sq_end) ?_
  clear hF hS; intro a w hF hS
  refine hK4 _ _ ?_
  clear hK4
  refine wp_block ?_
  obtain ⟨hs0, hhs0, hS⟩ : ∃ h, h = _ ∧ St _ _ h _ := ⟨_, rfl, hS⟩
  refine wp_loopx (γ := Int) (0) (fun (i : Int) => [(4, vi i), (3, vs (ps.take i.toNat).flatten)]) [(0, _)] (fun (i : Int) => hs0) (fun (i : Int) => 0 ≤ i ∧ i ≤ ps.length) (fun (i : Int) => (ps.length - i).toNat) (hF.sub ⟨rfl, rfl, rfl, trivial⟩) (by subst hhs0; exact hS) (by exact ⟨Int.le_refl _, by omega⟩) ?_
  clear hF hS; rintro i a w hfact hF hS
  subst hhs0; (try dsimp only at hfact); (try dsimp only at hF); (try dsimp only at hS)
  obtain ⟨hi0, hi1⟩ := hfact
  replace hS : St _ [] [] _ := hS
  refine wp_seq_k ?_; intro K5 hK5
  refine wp_seq_k ?_; intro K6 hK6
  refine reg hF hS (sq rfl (q_move rfl) <|
      sq rfl (q_move rfl) <|
      sq rfl (q_len_sl ty27 hb rfl) <|
      sq rfl (q_lti rfl rfl) <|
      sq_end) ?_
  clear hF hS; intro a w hF hS
  refine hK6 _ _ ?_
  clear hK6
  refine wp_ifd hF rfl (fun hc1 => ?_) (fun hc1 => ?_)
  · have hst := flat_step ps i.toNat (by omega)
    have hl1 := hl (i.toNat + 1)
    rw [hst, List.length_append] at hl1
    refine wp_skip ?_
    refine hK5 _ _ ?_
    clear hK5
    refine wp_seq_k ?_; intro K7 hK7
    refine wp_block ?_
    refine reg hF hS (sq rfl (q_move rfl) <|
        sq rfl (q_move rfl) <|
        sq rfl (q_move rfl) <|
        sq rfl (q_idx_sl ty27 ty9 hb rfl rfl (by omega)) <|
        sq rfl (q_ld_S ty9 hb zin0 rfl rfl (by omega)) <|
        sq rfl (q_adds rfl rfl (by first | omega | (simp; omega) | (simp [*]; done) | decide | (simp [*]; omega))) <|
        sq rfl (q_assign rfl) <|
        sq_end) ?_
    clear hF hS; intro a w hF hS
    rw [← hst, show i.toNat + 1 = (i + 1).toNat by omega] at hF
    refine hK7 _ _ ?_
    clear hK7
    refine reg hF hS (sq rfl (q_move rfl) <|
        sq rfl (q_addi rfl rfl (by omega)) <|
        sq rfl (q_assign rfl) <|
        sq_end) ?_
    clear hF hS; intro a w hF hS
    refine ⟨(i + 1), ?_, ?_, hF.sub ⟨rfl, rfl, rfl, trivial⟩, ?_⟩
    · (try dsimp only); omega
    · (try dsimp only); omega
    · exact hS
  · obtain rfl : i = ps.length := by omega
    rw [Int.toNat_natCast, List.take_length] at hF
    refine wp_exit ?_
    refine hK3 _ _ ?_
    clear hK3
    refine wp_seq_k ?_; intro K8 hK8
    refine reg hF hS (sq rfl (q_move rfl) <|
        sq rfl (q_assign rfl) <|
        sq_end) ?_
    clear hF hS; intro a w hF hS
    refine hK8 _ _ ?_
    clear hK8
    refine wp_ret ?_
    exact fn_ret (rs := [.tmp 2]) rfl hF hS (vs := [_]) ⟨rfl, trivial⟩ (List.nil_sublist _) (List.nil_sublist _) (rfl)
end Go.Proofs.YtkpfjkoeglpfoaaDoor
