/- A text of a proof over this seat: walks over the program's functions and the plain laws that they need. -/
import Derived.Test.YtkpfjkoeglpfoaaDoorWh18
set_option linter.all false
namespace Go.Proofs.YtkpfjkoeglpfoaaDoor
open Go.Fw


def hexD : List UInt8 := [48, 49, 50, 51, 52, 53, 54, 55, 56, 57, 97, 98, 99, 100, 101, 102]

def hexS (s : List UInt8) : List UInt8 := s.flatMap fun c => [hexD.getD (c / 16).toNat 0, hexD.getD (c % 16).toNat 0]

theorem u8div (c : UInt8) : (c / 16).toNat < 16 := by
  rw [UInt8.toNat_div]
  have := c.toNat_lt
  show c.toNat / 16 < 16
  omega
theorem u8mod (c : UInt8) : (c % 16).toNat < 16 := by
  rw [UInt8.toNat_mod]
  show c.toNat % 16 < 16
  omega
theorem hexS_step (s : List UInt8) (i : Nat) (h : i < s.length) : hexS (s.take (i + 1)) = hexS (s.take i) ++ [hexD.getD ((s.getD i 0) / 16).toNat 0, hexD.getD ((s.getD i 0) % 16).toNat 0] := by
  unfold hexS
  rw [List.take_add_one, List.getElem?_eq_getElem h, List.flatMap_append]
  have e : s.getD i 0 = s[i] := by rw [List.getD_eq_getElem?_getD, List.getElem?_eq_getElem h]; rfl
  rw [e]
  rfl
theorem hexS_len (s : List UInt8) : (hexS s).length = 2 * s.length := by
  unfold hexS
  induction s with
  | nil => rfl
  | cons c s ih => rw [List.flatMap_cons, List.length_append, ih]; simp; omega

set_option maxHeartbeats 2000000 in
theorem hex_ct (s : List UInt8) (hs : s.length < 1099511627776) (w : World) : Ct Tryd.prog 25 [vs s] w (fun r _ _ => r = vs (hexS s)) := by
  refine fn_enter Tryd.func25 rfl Tryd.ntmps25 (Nat.le_of_ble_eq_true rfl) fun a hF hS => ?_
  refine wp_seq_k ?_; intro K1 hK1
  refine reg hF hS (sq rfl (q_assign rfl) <|
      sq_end) ?_
  clear hF hS; intro a w hF hS
  refine hK1 _ _ ?_
  clear hK1
  refine wp_seq_k ?_; intro K2 hK2
  refine reg hF hS (sq rfl (q_assign rfl) <|
      sq_end) ?_
  clear hF hS; intro a w hF hS
  refine hK2 _ _ ?_
  clear hK2
  refine wp_seq_k ?_; intro K3 hK3
  refine reg hF hS (sq rfl (q_assign rfl) <|
      sq_end) ?_
  clear hF hS; intro a w hF hS
  replace hS := hS.nilRow 5 1
  refine hK3 _ _ ?_
  clear hK3
  refine wp_seq_k ?_; intro K4 hK4
  refine wp_seq_k ?_; intro K5 hK5
  refine reg hF hS (sq rfl (q_assign rfl) <|
      sq_end) ?_
  clear hF hS; intro a w hF hS
  refine hK5 _ _ ?_
  clear hK5
  refine wp_block ?_
  obtain ⟨hs0, hhs0, hS⟩ : ∃ h, h = _ ∧ St _ _ h _ := ⟨_, rfl, hS⟩
  refine wp_loopx (γ := Value × Int) ((Value.slice none 0 0), 0) (fun (gg : Value × Int) => match gg with | (u, i) => [(4, u), (5, vi i)]) [(0, _), (3, _)] (fun (gg : Value × Int) => match gg with | (u, i) => (hs0.set 0 (.row u 5 1 (hexS (s.take i.toNat)).length ((hexS (s.take i.toNat)).map vb)))) (fun (gg : Value × Int) => match gg with | (u, i) => 0 ≤ i ∧ i ≤ s.length) (fun (gg : Value × Int) => match gg with | (u, i) => (s.length - i).toNat) (hF.sub ⟨rfl, rfl, rfl, rfl, trivial⟩) (by subst hhs0; exact hS) (by exact ⟨Int.le_refl _, by omega⟩) ?_
  clear hF hS; rintro ⟨u, i⟩ a w hfact hF hS
  subst hhs0; (try dsimp only at hfact); (try dsimp only at hF); (try dsimp only at hS)
  obtain ⟨hi0, hi1⟩ := hfact
  replace hS : St _ [] [_] _ := hS
  have hhl := hexS_len (s.take i.toNat)
  rw [List.length_take] at hhl
  have hdl : hexD.length = 16 := rfl
  have hq1 := u8div (s.getD i.toNat 0)
  have hq2 := u8mod (s.getD i.toNat 0)
  refine wp_seq_k ?_; intro K6 hK6
  refine wp_seq_k ?_; intro K7 hK7
  refine reg hF hS (sq rfl (q_move rfl) <|
      sq rfl (q_move rfl) <|
      sq rfl (q_len_s ty9 rfl) <|
      sq rfl (q_lti rfl rfl) <|
      sq_end) ?_
  clear hF hS; intro a w hF hS
  refine hK7 _ _ ?_
  clear hK7
  refine wp_ifd hF rfl (fun hc1 => ?_) (fun hc1 => ?_)
  · refine wp_skip ?_
    refine hK6 _ _ ?_
    clear hK6
    refine wp_seq_k ?_; intro K8 hK8
    refine wp_block ?_
    revert hF hS; apply regJ (J := J2 (α0 := Value) (α1 := Value) 29 _ _ _ _ _) #[false, false, false, false, false, false, false, false, false, false, false, false, false, false, false, false] 16 mixed rfl rfl
    · intro w hF hS
      refine goW_take 0 #[true, false, false, false, false, false, false, false, false, false, false, false, false, false, false, false] rfl (by kernel_rfl) rfl hF (hS.keep (List.Sublist.refl _) (List.nil_sublist _)) (q_move rfl) ?_
      clear hF; intro a hF
      refine goW_take 1 #[true, true, false, false, false, false, false, false, false, false, false, false, false, false, false, false] rfl (by kernel_rfl) rfl hF (hS.keep (List.Sublist.refl _) (List.nil_sublist _)) (q_move rfl) ?_
      clear hF; intro a hF
      refine goW_take 2 #[true, true, true, false, false, false, false, false, false, false, false, false, false, false, false, false] rfl (by kernel_rfl) rfl hF (hS.keep (List.Sublist.refl _) (List.nil_sublist _)) (q_move rfl) ?_
      clear hF; intro a hF
      refine goW_take 3 #[true, true, true, true, false, false, false, false, false, false, false, false, false, false, false, false] rfl (by kernel_rfl) rfl hF (hS.keep (List.Sublist.refl _) (List.nil_sublist _)) (q_move rfl) ?_
      clear hF; intro a hF
      refine goW_take 4 #[true, true, true, true, true, false, false, false, false, false, false, false, false, false, false, false] rfl (by kernel_rfl) rfl hF (hS.keep (List.Sublist.refl _) (List.nil_sublist _)) (q_idx_s ty9 rfl rfl (by omega)) ?_
      clear hF; intro a hF
      refine goW_take 5 #[true, true, true, true, true, true, false, false, false, false, false, false, false, false, false, false] rfl (by kernel_rfl) rfl hF (hS.keep (List.Sublist.refl _) (List.nil_sublist _)) (q_quob (q := 16) rfl rfl (by decide)) ?_
      clear hF; intro a hF
      refine goW_take 6 #[true, true, true, true, true, true, true, false, false, false, false, false, false, false, false, false] rfl (by kernel_rfl) rfl hF (hS.keep (List.Sublist.refl _) (List.nil_sublist _)) (q_idx_s ty9 (l := hexD) rfl rfl (by omega)) ?_
      clear hF; intro a hF
      refine goW_take 7 #[true, true, true, true, true, true, true, true, false, false, false, false, false, false, false, false] rfl (by kernel_rfl) rfl hF (hS.keep (List.Sublist.refl _) (List.nil_sublist _)) (q_move rfl) ?_
      clear hF; intro a hF
      refine goW_take 8 #[true, true, true, true, true, true, true, true, true, false, false, false, false, false, false, false] rfl (by kernel_rfl) rfl hF (hS.keep (List.Sublist.refl _) (List.nil_sublist _)) (q_move rfl) ?_
      clear hF; intro a hF
      refine goW_take 9 #[true, true, true, true, true, true, true, true, true, true, false, false, false, false, false, false] rfl (by kernel_rfl) rfl hF (hS.keep (List.Sublist.refl _) (List.nil_sublist _)) (q_move rfl) ?_
      clear hF; intro a hF
      refine goW_take 10 #[true, true, true, true, true, true, true, true, true, true, true, false, false, false, false, false] rfl (by kernel_rfl) rfl hF (hS.keep (List.Sublist.refl _) (List.nil_sublist _)) (q_idx_s ty9 rfl rfl (by omega)) ?_
      clear hF; intro a hF
      refine goW_take 11 #[true, true, true, true, true, true, true, true, true, true, true, true, false, false, false, false] rfl (by kernel_rfl) rfl hF (hS.keep (List.Sublist.refl _) (List.nil_sublist _)) (q_remb (q := 16) rfl rfl (by decide)) ?_
      clear hF; intro a hF
      refine goW_take 12 #[true, true, true, true, true, true, true, true, true, true, true, true, true, false, false, false] rfl (by kernel_rfl) rfl hF (hS.keep (List.Sublist.refl _) (List.nil_sublist _)) (q_idx_s ty9 (l := hexD) rfl rfl (by omega)) ?_
      clear hF; intro a hF
      refine goW_fork [13] (by kernel_rfl) rfl ⟨?_, trivial⟩
      refine stepW_ef #[true, true, true, true, true, true, true, true, true, true, true, true, true, true, false, false] rfl rfl hF hS rfl (ef_bsliceA ty22 ty5 rfl rfl (by first | ((repeat first | ((with_reducible refine oc_map ?_); intro _; rfl) | (with_reducible refine oc_app ?_ ?_) | ((with_reducible refine oc_cons ?_ ?_); rfl) | (with_reducible exact oc_nil) | ((with_reducible refine oc_rep ?_); rfl)); done) | (simp [Value.oneCell']; done) | (simp; decide)) (by decide) rfl rfl) ?_
      clear hF hS; rintro v_6_13 _ _ a w ⟨rfl, rfl⟩ hF hS
      replace hS : St _ [] [_, _] _ := hS
      refine ⟨⟨.inl (by kernel_rfl), .inl (by kernel_rfl), .inr (hS.keep (List.nil_sublist _) (List.nil_sublist _)), .inr (hS.keep (List.nil_sublist _) (List.nil_sublist _)), .inr (hS.keep (List.nil_sublist _) (List.nil_sublist _)), .inl (by kernel_rfl), .inl (by kernel_rfl), .inl (by kernel_rfl), .inr (hS.keep (List.nil_sublist _) (List.nil_sublist _)), .inr (hS.keep (List.nil_sublist _) (List.nil_sublist _)), .inr (hS.keep (List.nil_sublist _) (List.nil_sublist _)), .inl (by kernel_rfl), .inr (hS.keep (List.nil_sublist _) (List.nil_sublist _)), trivial⟩, ?_⟩
      refine goW_fork [14] (by kernel_rfl) rfl ⟨?_, trivial⟩
      refine stepW_ef #[true, true, true, true, true, true, true, true, true, true, true, true, true, true, true, false] rfl rfl hF hS rfl (ef_append ty22 ty5 1 rfl rfl rfl (src_row ty22 (k := 0) rfl (by first | ((repeat first | ((with_reducible refine oc_map ?_); intro _; rfl) | (with_reducible refine oc_app ?_ ?_) | ((with_reducible refine oc_cons ?_ ?_); rfl) | (with_reducible exact oc_nil) | ((with_reducible refine oc_rep ?_); rfl)); done) | (simp [Value.oneCell']; done) | (simp; decide))) (by first | omega | (simp; omega) | (simp [*]; done) | decide | (simp [*]; omega)) rfl (by decide)) ?_
      clear hF hS; rintro v_6_14 _ _ a w ⟨rfl, rfl⟩ hF hS
      replace hS : St _ [] [_, _] _ := hS
      refine ⟨⟨.inl (by kernel_rfl), .inl (by kernel_rfl), .inr (hS.keep (List.nil_sublist _) (List.nil_sublist _)), .inr (hS.keep (List.nil_sublist _) (List.nil_sublist _)), .inr (hS.keep (List.nil_sublist _) (List.nil_sublist _)), .inl (by kernel_rfl), .inl (by kernel_rfl), .inl (by kernel_rfl), .inr (hS.keep (List.nil_sublist _) (List.nil_sublist _)), .inr (hS.keep (List.nil_sublist _) (List.nil_sublist _)), .inr (hS.keep (List.nil_sublist _) (List.nil_sublist _)), .inl (by kernel_rfl), .inl (by kernel_rfl), trivial⟩, ?_⟩
      refine goW_take 15 #[true, true, true, true, true, true, true, true, true, true, true, true, true, true, true, true] rfl (by kernel_rfl) rfl hF (hS.keep (List.Sublist.refl _) (List.nil_sublist _)) (q_assign rfl) ?_
      clear hF; intro a hF
      exact goW_done (by kernel_rfl) (j2_mk v_6_13 v_6_14 (trivial) (hF.sub (L' := [(0, _), (3, _), (4, _), (5, _)]) ⟨rfl, rfl, rfl, rfl, trivial⟩) hS)
    rintro a w ⟨v_6_13, v_6_14, -, hF, hS⟩
    (try dsimp only at hF); (try dsimp only at hS)
    refine hK8 _ _ ?_
    clear hK8
    refine reg hF hS (sq rfl (q_move rfl) <|
        sq rfl (q_addi rfl rfl (by omega)) <|
        sq rfl (q_assign rfl) <|
        sq_end) ?_
    clear hF hS; intro a w hF hS
    replace hS := hS.keep (List.nil_sublist _) (((List.nil_sublist _).cons_cons _).cons _)
    refine ⟨(v_6_14, i + 1), ?_, ?_, hF.sub ⟨rfl, rfl, rfl, rfl, trivial⟩, ?_⟩
    · (try dsimp only); omega
    · (try dsimp only); omega
    · have e := hexS_step s i.toNat (by omega)
      rw [show i.toNat + 1 = (i + 1).toNat by omega] at e
      have e2 : (hexS (s.take i.toNat)).map vb ++ [vb (hexD.getD ((s.getD i.toNat 0) / 16).toNat 0), vb (hexD.getD ((s.getD i.toNat 0) % 16).toNat 0)] = (hexS (s.take (i + 1).toNat)).map vb := by rw [e, List.map_append]; rfl
      have e3 : (hexS (s.take i.toNat)).length + 2 = (hexS (s.take (i + 1).toNat)).length := by rw [e, List.length_append]; rfl
      simp only [Int.toNat_natCast] at hS
      rw [e2, e3] at hS
      exact hS
  · obtain rfl : i = s.length := by omega
    rw [Int.toNat_natCast, List.take_length] at hS
    refine wp_exit ?_
    refine hK4 _ _ ?_
    clear hK4
    refine wp_seq_k ?_; intro K9 hK9
    refine reg hF hS (sq rfl (q_move rfl) <|
        sq rfl (q_b2s_row ty22 ty9 ty5 0 rfl rfl) <|
        sq rfl (q_assign rfl) <|
        sq_end) ?_
    clear hF hS; intro a w hF hS
    refine hK9 _ _ ?_
    clear hK9
    refine wp_ret ?_
    exact fn_ret (rs := [.tmp 2]) rfl hF hS (vs := [_]) ⟨rfl, trivial⟩ (List.nil_sublist _) (List.nil_sublist _) (rfl)
end Go.Proofs.YtkpfjkoeglpfoaaDoor
