/- A text of a proof over this seat: walks over the program's functions and the plain laws that they need. -/
import Derived.Test.YtkpfjkoeglpfoaaDoorWh17
set_option linter.all false
namespace Go.Proofs.YtkpfjkoeglpfoaaDoor
open Go.Fw


theorem ret_ne {x y : List UInt8} (h : x ≠ y) : decide (x = y) = false := by simp [h]
theorem ret_ne' {x y : List UInt8} (h : ¬ (x.length : Int) = y.length) : Value.bool false = vt (decide (x = y)) := by
  rw [ret_ne]
  intro e; exact h (by rw [e])
theorem eq_step (x y : List UInt8) (i : Int) (d : UInt8) (h0 : 0 ≤ i) (h1 : i < x.length) (hl : (x.length : Int) = y.length) (hd : d = 0 ↔ x.take i.toNat = y.take i.toNat) :
    (d ||| (x.getD i.toNat 0 ^^^ y.getD i.toNat 0)) = 0 ↔ x.take (i + 1).toNat = y.take (i + 1).toNat := by
  obtain ⟨n, rfl⟩ := Int.eq_ofNat_of_zero_le h0
  have e : ((n : Int) + 1).toNat = n + 1 := by omega
  rw [e, Int.toNat_natCast] 
  rw [Int.toNat_natCast] at hd
  have h1' : n < x.length := by omega
  have h2' : n < y.length := by omega
  rw [List.take_succ_eq_append_getElem h1', List.take_succ_eq_append_getElem h2']
  have hx : x.getD n 0 = x[n] := by simp [h1']
  have hy : y.getD n 0 = y[n] := by simp [h2']
  rw [hx, hy]
  have key : (d ||| (x[n] ^^^ y[n])) = 0 ↔ d = 0 ∧ x[n] = y[n] := by
    constructor
    · intro h
      have h3 : d.toBitVec ||| (x[n].toBitVec ^^^ y[n].toBitVec) = 0#8 := congrArg UInt8.toBitVec h
      have h4 := BitVec.or_eq_zero_iff.1 h3
      exact ⟨UInt8.toBitVec_inj.1 h4.1, UInt8.toBitVec_inj.1 (BitVec.xor_eq_zero_iff.1 h4.2)⟩
    · rintro ⟨rfl, h⟩
      rw [h]
      simp
  rw [key, hd]
  constructor
  · rintro ⟨h3, h4⟩; rw [h3, h4]
  · intro h; have := List.append_inj h (by simp; omega); exact ⟨this.1, by simpa using this.2⟩
theorem eq_end (x y : List UInt8) (i : Int) (d : UInt8) (hl : (x.length : Int) = y.length) (h : (x.length : Int) ≤ i) (hd : d = 0 ↔ x.take i.toNat = y.take i.toNat) : decide (x = y) = decide (d = 0) := by
  rw [List.take_of_length_le (by omega), List.take_of_length_le (by omega)] at hd
  simp [hd]

set_option maxHeartbeats 2000000 in
theorem equal_ct (x y : List UInt8) (hx : x.length ≤ 140737488355328) (hy : y.length ≤ 140737488355328) (w : World) : Ct Tryd.prog 24 [vs x, vs y] w (fun v _ _ => v = vt (decide (x = y))) := by
  refine fn_enter Tryd.func24 rfl Tryd.ntmps24 (Nat.le_of_ble_eq_true rfl) fun a hF hS => ?_
  refine wp_seq_k ?_; intro K1 hK1
  refine reg hF hS (sq rfl (q_assign rfl) <|
      sq_end) ?_
  clear hF hS; intro a w hF hS
  refine hK1 _ _ ?_
  clear hK1
  refine wp_seq_k ?_; intro K2 hK2
  refine wp_seq_k ?_; intro K3 hK3
  refine reg hF hS (sq rfl (q_move rfl) <|
      sq rfl (q_len_s ty9 rfl) <|
      sq rfl (q_move rfl) <|
      sq rfl (q_len_s ty9 rfl) <|
      sq rfl (q_nei rfl rfl) <|
      sq_end) ?_
  clear hF hS; intro a w hF hS
  refine hK3 _ _ ?_
  clear hK3
  refine wp_ifn hF rfl (fun hc1 => ?_) (fun hc1 => ?_)
  · refine wp_seq_k ?_; intro K4 hK4
    refine reg hF hS (sq rfl (q_assign rfl) <|
        sq_end) ?_
    clear hF hS; intro a w hF hS
    refine hK4 _ _ ?_
    clear hK4
    refine wp_ret ?_
    exact fn_ret (rs := [.tmp 4]) rfl hF hS (vs := [_]) ⟨rfl, trivial⟩ (List.nil_sublist _) (List.nil_sublist _) (ret_ne' hc1)
  · refine wp_skip ?_
    refine hK2 _ _ ?_
    clear hK2
    refine wp_seq_k ?_; intro K5 hK5
    refine reg hF hS (sq rfl (q_assign rfl) <|
        sq_end) ?_
    clear hF hS; intro a w hF hS
    refine hK5 _ _ ?_
    clear hK5
    refine wp_seq_k ?_; intro K6 hK6
    refine wp_seq_k ?_; intro K7 hK7
    refine reg hF hS (sq rfl (q_move rfl) <|
        sq rfl (q_len_s ty9 rfl) <|
        sq rfl (q_move rfl) <|
        sq_end) ?_
    clear hF hS; intro a w hF hS
    refine hK7 _ _ ?_
    clear hK7
    refine wp_block ?_
    obtain ⟨hs0, hhs0, hS⟩ : ∃ h, h = _ ∧ St _ _ h _ := ⟨_, rfl, hS⟩
    refine wp_loopx (γ := Int × UInt8) (0, 0) (fun (gg : Int × UInt8) => match gg with | (i, d) => [(14, vi i), (5, vb d)]) [(0, _), (1, _), (13, _)] (fun (gg : Int × UInt8) => match gg with | (i, d) => hs0) (fun (gg : Int × UInt8) => match gg with | (i, d) => 0 ≤ i ∧ i ≤ x.length ∧ (d = 0 ↔ x.take i.toNat = y.take i.toNat)) (fun (gg : Int × UInt8) => match gg with | (i, d) => (x.length - i).toNat) (hF.sub ⟨rfl, rfl, rfl, rfl, rfl, trivial⟩) (by subst hhs0; exact hS) (by simp) ?_
    clear hF hS; rintro ⟨i, d⟩ a w hfact hF hS
    subst hhs0; (try dsimp only at hfact); (try dsimp only at hF); (try dsimp only at hS)
    obtain ⟨hi0, hi1, hd⟩ := hfact
    replace hS : St _ [] [] _ := hS
    refine wp_seq_k ?_; intro K8 hK8
    refine reg hF hS (sq rfl (q_lti rfl rfl) <|
        sq_end) ?_
    clear hF hS; intro a w hF hS
    refine hK8 _ _ ?_
    clear hK8
    refine wp_seq_k ?_; intro K9 hK9
    refine wp_ifd hF rfl (fun hc2 => ?_) (fun hc2 => ?_)
    · refine wp_skip ?_
      refine hK9 _ _ ?_
      clear hK9
      refine wp_seq_k ?_; intro K10 hK10
      refine wp_block ?_
      refine wp_seq_k ?_; intro K11 hK11
      refine reg hF hS (sq rfl (q_move rfl) <|
          sq rfl (q_assign rfl) <|
          sq_end) ?_
      clear hF hS; intro a w hF hS
      refine hK11 _ _ ?_
      clear hK11
      refine regd mixed (by kernel_rfl) hF hS (sq rfl (q_move rfl) <|
          sq rfl (q_move rfl) <|
          sq rfl (q_move rfl) <|
          sq rfl (q_idx_s ty9 rfl rfl (by omega)) <|
          sq rfl (q_move rfl) <|
          sq rfl (q_move rfl) <|
          sq rfl (q_idx_s ty9 rfl rfl (by omega)) <|
          sq rfl (q_xorb rfl rfl) <|
          sq rfl (q_orb rfl rfl) <|
          sq rfl (q_assign rfl) <|
          sq_end) ?_
      clear hF hS; intro a w hF hS
      refine hK10 _ _ ?_
      clear hK10
      refine reg hF hS (sq rfl (q_addi rfl rfl (by omega)) <|
          sq rfl (q_move rfl) <|
          sq_end) ?_
      clear hF hS; intro a w hF hS
      refine ⟨(i + 1, d ||| (x.getD i.toNat 0 ^^^ y.getD i.toNat 0)), ?_, ?_, hF.sub ⟨rfl, rfl, rfl, rfl, rfl, trivial⟩, ?_⟩
      · (try dsimp only); omega
      · exact ⟨by omega, by omega, eq_step x y i d hi0 (by omega) hc1 hd⟩
      · exact hS
    · refine wp_exit ?_
      refine hK6 _ _ ?_
      clear hK6
      refine wp_seq_k ?_; intro K12 hK12
      refine reg hF hS (sq rfl (q_move rfl) <|
          sq rfl (q_eqb (q := 0) rfl rfl) <|
          sq rfl (q_assign rfl) <|
          sq_end) ?_
      clear hF hS; intro a w hF hS
      refine hK12 _ _ ?_
      clear hK12
      refine wp_ret ?_
      exact fn_ret (rs := [.tmp 4]) rfl hF hS (vs := [_]) ⟨rfl, trivial⟩ (List.nil_sublist _) (List.nil_sublist _) (by rw [eq_end x y i d hc1 (by omega) hd])
end Go.Proofs.YtkpfjkoeglpfoaaDoor
