/- A text of a proof over this seat: walks over the program's functions and the plain laws that they need. -/
import Derived.Test.YtkpfjkoeglpfoaaDoorWh20
import Derived.Test.YtkpfjkoeglpfoaaDoorSha7
import Derived.Test.YtkpfjkoeglpfoaaDoorFw18
set_option linter.all false
namespace Go.Proofs.YtkpfjkoeglpfoaaDoor
open Go.Fw
theorem ty4 : Tf Tryd.prog 4 .bool 1 1 (Value.bool false) := ⟨Tryd.underlying4, by kernel_rfl⟩
theorem fn10 : FnOk Tryd.prog 10 := ⟨_, Tryd.func10, rfl, by kernel_rfl⟩
theorem fn19 : FnOk Tryd.prog 19 := ⟨_, Tryd.func19, rfl, by kernel_rfl⟩

theorem few_ok {ps : List (List UInt8)} (h : fewB ps = true) : ps.length ≤ 12 ∧ ∀ p ∈ ps, p.length ≤ 400 := by
  unfold fewB at h
  have h := of_decide_eq_true h
  refine ⟨h.1, fun p hp => ?_⟩
  obtain ⟨i, hi, rfl⟩ := List.mem_iff_getElem.1 hp
  have := h.2 i hi
  rwa [List.getD_eq_getElem?_getD, List.getElem?_eq_getElem hi] at this

attribute [local irreducible] Sha.sum Sha.mac Sha.ofD Sha.fin Sha.adds Sha.begin_ Sha.inp fewB

set_option maxHeartbeats 2000000 in
theorem law1_ct (v : Value) (xs : List UInt8) (w : World) (hb : Sl encB (ph w) v xs) {fz0 : Nat × Nat} {bt0 : TypeId} (hg0 : w.heap[0]? = some (.cells (Sha.kc.map vw).toArray bt0 fz0)) {fz1 : Nat × Nat} {bt1 : TypeId} (hg1 : w.heap[1]? = some (.cells (Sha.kc.map vw).toArray bt1 fz1)) : Ct Tryd.prog 3 [v] w (fun r _ _ => r = .bool true) := by
  refine fn_enter Tryd.func3 rfl Tryd.ntmps3 (Nat.le_of_ble_eq_true rfl) fun a hF hS => ?_
  have hbl := hb.1
  have hsl := Sha.sum_len xs
  refine wp_seq_k ?_; intro K1 hK1
  refine reg hF hS (sq rfl (q_assign rfl) <|
      sq_end) ?_
  clear hF hS; intro a w hF hS
  refine hK1 _ _ ?_
  clear hK1
  refine wp_seq_k ?_; intro K2 hK2
  refine reg hF hS (sq rfl (q_call fn10 rfl (fun w hS => sanity_ct w (hS.ext _ _ hg1)) (fun _ _ _ h => h)) <|
      sq rfl (q_assign rfl) <|
      sq_end) ?_
  clear hF hS; intro a w hF hS
  refine hK2 _ _ ?_
  clear hK2
  refine wp_seq_k ?_; intro K3 hK3
  refine wp_seq_k ?_; intro K4 hK4
  refine reg hF hS (sq rfl (q_move rfl) <|
      sq rfl (q_len_sl ty22 hb rfl) <|
      sq rfl (q_gti rfl rfl) <|
      sq_end) ?_
  clear hF hS; intro a w hF hS
  refine hK4 _ _ ?_
  clear hK4
  refine wp_ifd hF rfl (fun hc1 => ?_) (fun hc1 => ?_)
  · refine wp_seq_k ?_; intro K5 hK5
    refine reg hF hS (sq rfl (q_move rfl) <|
        sq rfl (q_assign rfl) <|
        sq_end) ?_
    clear hF hS; intro a w hF hS
    refine hK5 _ _ ?_
    clear hK5
    refine wp_ret ?_
    exact fn_ret (rs := [.tmp 2]) rfl hF hS (vs := [_]) ⟨rfl, trivial⟩ (List.nil_sublist _) (List.nil_sublist _) (rfl)
  · refine wp_skip ?_
    refine hK3 _ _ ?_
    clear hK3
    refine wp_seq_k ?_; intro K6 hK6
    refine reg hF hS (sq rfl (q_move rfl) <|
        sq rfl (q_b2s_sl ty22 ty9 ty5 hb zin0 rfl) <|
        sq rfl (q_assign rfl) <|
        sq_end) ?_
    clear hF hS; intro a w hF hS
    refine hK6 _ _ ?_
    clear hK6
    refine wp_seq_k ?_; intro K7 hK7
    refine regl ?_
    refine wpl_sq hF hS (sq rfl (q_move rfl) <|
        sq rfl (q_call fn11 rfl (fun w hS => sum_ct _ _ (by first | assumption | omega) w (Sl.mono (hS.le zin0) hb) (hS.ext _ _ hg1)) (fun _ _ _ h => h)) <|
        sq_end) ?_
    clear hF hS; intro a w hF hS
    refine wpl_ef hF hS rfl (ef_allocA ty24) ?_
    clear hF hS; rintro _ _ _ a w ⟨b1, rfl, rfl, rfl⟩ hF hS
    rw [show List.replicate 32 (Value.int .u8 0) = (List.replicate 32 (0 : UInt8)).map vb from by rw [List.map_replicate]; rfl] at hS
    refine wpl_ef hF hS rfl (ef_storeW ty24 0 rfl rfl rfl rfl (by first | omega | (simp; omega) | (simp [*]; done) | decide | (simp [*]; omega)) (by first | ((repeat first | ((with_reducible refine oc_map ?_); intro _; rfl) | (with_reducible refine oc_app ?_ ?_) | ((with_reducible refine oc_cons ?_ ?_); rfl) | (with_reducible exact oc_nil) | ((with_reducible refine oc_rep ?_); rfl)); done) | (simp [Value.oneCell']; done) | (simp; decide)) (by first | omega | (simp; omega) | (simp [*]; done) | decide | (simp [*]; omega))) ?_
    clear hF hS; rintro _ _ _ a w ⟨rfl, rfl, rfl⟩ hF hS
    replace hS : St _ [] [_] _ := hS
    refine wpList_nil ?_
    refine hK7 _ _ ?_
    clear hK7
    refine wp_seq_k ?_; intro K8 hK8
    revert hF hS; apply regJ (J := J2 (α0 := Value) (α1 := PH) 29 _ _ _ _ _) #[false, false, false, false, false, false, false, false, false, false, false, false, false, false, false] 15 mixed rfl rfl
    · intro w hF hS
      refine goW_take 0 #[true, false, false, false, false, false, false, false, false, false, false, false, false, false, false] rfl (by kernel_rfl) rfl hF (hS.keep (List.Sublist.refl _) (List.nil_sublist _)) (q_move rfl) ?_
      clear hF; intro a hF
      refine goW_take 1 #[true, true, false, false, false, false, false, false, false, false, false, false, false, false, false] rfl (by kernel_rfl) rfl hF (hS.keep (List.Sublist.refl _) (List.nil_sublist _)) (q_move rfl) ?_
      clear hF; intro a hF
      refine goW_takeg 2 #[true, true, true, false, false, false, false, false, false, false, false, false, false, false, false] rfl (wanted_go 16 rfl rfl) (by kernel_rfl) rfl hF (hS.keep (List.Sublist.refl _) (List.Sublist.refl _)) (q_ld_blkW ty24 0 rfl rfl (by first | omega | (simp; omega) | (simp [*]; done) | decide | (simp [*]; omega)) rfl) ?_
      clear hF; intro a hF
      refine goW_takeg 3 #[true, true, true, true, false, false, false, false, false, false, false, false, false, false, false] rfl (wanted_go 16 rfl rfl) (by kernel_rfl) rfl hF (hS.keep (List.Sublist.refl _) (List.nil_sublist _)) (q_move rfl) ?_
      clear hF; intro a hF
      refine goW_fork [4] (by kernel_rfl) rfl ⟨?_, trivial⟩
      refine stepW_efg #[true, true, true, true, true, false, false, false, false, false, false, false, false, false, false] rfl (wanted_go 16 rfl rfl) rfl hF hS rfl (ef_s2b ty9 ty22 ty5 rfl (by omega)) ?_
      clear hF hS; rintro v_6_4 _ _ a w ⟨z_6_4, rfl, rfl, hz_6_4⟩ hF hS
      refine ⟨⟨.inl (by kernel_rfl), .inr (hS.keep (List.nil_sublist _) (List.Sublist.refl _)), .inl (by kernel_rfl), .inl (by kernel_rfl), trivial⟩, ?_⟩
      refine goW_fork [5] (by kernel_rfl) rfl ⟨?_, trivial⟩
      refine stepW_efg #[true, true, true, true, true, true, false, false, false, false, false, false, false, false, false] rfl (wanted_go 16 rfl rfl) rfl hF hS rfl (ef_qt (q_call fn12 rfl (fun w hS => rsum_ct _ _ (by first | assumption | omega) w (Sl.mono (hS.le (.inr (by simp))) hz_6_4) (hS.ext _ _ hg0)) (fun _ _ _ h => h))) ?_
      clear hF hS; rintro _ _ _ a w ⟨rfl, rfl, rfl⟩ hF hS
      refine ⟨⟨.inl (by kernel_rfl), .inr (hS.keep (List.nil_sublist _) (List.Sublist.refl _)), .inl (by kernel_rfl), .inl (by kernel_rfl), trivial⟩, ?_⟩
      refine goW_takeg 6 #[true, true, true, true, true, true, true, false, false, false, false, false, false, false, false] rfl (wanted_go 16 rfl rfl) (by kernel_rfl) rfl hF (hS.keep (List.Sublist.refl _) (List.nil_sublist _)) (q_dt (q_eqAB ty24 ty5 (by kernel_rfl) rfl rfl (by first | omega | (simp; omega) | (simp [*]; done) | decide | (simp [*]; omega)) (by first | omega | (simp; omega) | (simp [*]; done) | decide | (simp [*]; omega))) (rfl)) ?_
      clear hF; intro a hF
      refine goW_take 7 #[true, true, true, true, true, true, true, true, false, false, false, false, false, false, false] rfl (by kernel_rfl) rfl hF (hS.keep (List.Sublist.refl _) (List.nil_sublist _)) (q_pick_t rfl rfl) ?_
      clear hF; intro a hF
      refine goW_take 8 #[true, true, true, true, true, true, true, true, true, false, false, false, false, false, false] rfl (by kernel_rfl) rfl hF (hS.keep (List.Sublist.refl _) (List.nil_sublist _)) (q_move rfl) ?_
      clear hF; intro a hF
      refine goW_takeg 9 #[true, true, true, true, true, true, true, true, true, true, false, false, false, false, false] rfl (wanted_go 23 rfl rfl) (by kernel_rfl) rfl hF (hS.keep (List.Sublist.refl _) (List.nil_sublist _)) (q_move rfl) ?_
      clear hF; intro a hF
      refine goW_takeg 10 #[true, true, true, true, true, true, true, true, true, true, true, false, false, false, false] rfl (wanted_go 23 rfl rfl) (by kernel_rfl) rfl hF (hS.keep (List.Sublist.refl _) (List.nil_sublist _)) (q_b2s_sl ty22 ty9 ty5 hb zin0 rfl) ?_
      clear hF; intro a hF
      refine goW_takeg 11 #[true, true, true, true, true, true, true, true, true, true, true, true, false, false, false] rfl (wanted_go 23 rfl rfl) (by kernel_rfl) rfl hF (hS.keep (List.Sublist.refl _) (List.nil_sublist _)) (q_move rfl) ?_
      clear hF; intro a hF
      refine goW_takeg 12 #[true, true, true, true, true, true, true, true, true, true, true, true, true, false, false] rfl (wanted_go 23 rfl rfl) (by kernel_rfl) rfl hF (hS.keep (List.Sublist.refl _) (List.nil_sublist _)) (q_dt (q_eqs rfl rfl) (rfl)) ?_
      clear hF; intro a hF
      refine goW_take 13 #[true, true, true, true, true, true, true, true, true, true, true, true, true, true, false] rfl (by kernel_rfl) rfl hF (hS.keep (List.Sublist.refl _) (List.nil_sublist _)) (q_pick_t rfl rfl) ?_
      clear hF; intro a hF
      refine goW_take 14 #[true, true, true, true, true, true, true, true, true, true, true, true, true, true, true] rfl (by kernel_rfl) rfl hF (hS.keep (List.Sublist.refl _) (List.nil_sublist _)) (q_assign rfl) ?_
      clear hF; intro a hF
      exact goW_done (by kernel_rfl) (j2_mk v_6_4 z_6_4 ((And.intro hz_6_4 trivial)) (hF.sub (L' := [(2, _)]) ⟨rfl, trivial⟩) hS)
    rintro a w ⟨v_6_4, z_6_4, ⟨hz_6_4, -⟩, hF, hS⟩
    (try dsimp only at hF); (try dsimp only at hS)
    refine hK8 _ _ ?_
    clear hK8
    refine wp_ret ?_
    exact fn_ret (rs := [.tmp 2]) rfl hF hS (vs := [_]) ⟨rfl, trivial⟩ (List.nil_sublist _) (List.nil_sublist _) (rfl)

set_option maxHeartbeats 2000000 in
theorem law3_ct (x y : List UInt8) (w : World) {fz0 : Nat × Nat} {bt0 : TypeId} (hg0 : w.heap[0]? = some (.cells (Sha.kc.map vw).toArray bt0 fz0)) {fz1 : Nat × Nat} {bt1 : TypeId} (hg1 : w.heap[1]? = some (.cells (Sha.kc.map vw).toArray bt1 fz1)) : Ct Tryd.prog 5 [vs x, vs y] w (fun r _ _ => r = .bool true) := by
  refine fn_enter Tryd.func5 rfl Tryd.ntmps5 (Nat.le_of_ble_eq_true rfl) fun a hF hS => ?_
  refine wp_seq_k ?_; intro K1 hK1
  refine reg hF hS (sq rfl (q_assign rfl) <|
      sq_end) ?_
  clear hF hS; intro a w hF hS
  refine hK1 _ _ ?_
  clear hK1
  refine wp_seq_k ?_; intro K2 hK2
  refine reg hF hS (sq rfl (q_call fn10 rfl (fun w hS => sanity_ct w (hS.ext _ _ hg1)) (fun _ _ _ h => h)) <|
      sq rfl (q_assign rfl) <|
      sq_end) ?_
  clear hF hS; intro a w hF hS
  refine hK2 _ _ ?_
  clear hK2
  refine wp_seq_k ?_; intro K3 hK3
  refine wp_seq_k ?_; intro K4 hK4
  refine regl ?_
  refine wpl_sq hF hS (sq rfl (q_move rfl) <|
      sq rfl (q_len_s ty9 rfl) <|
      sq rfl (q_gti rfl rfl) <|
      sq rfl (q_move rfl) <|
      sq_end) ?_
  clear hF hS; intro a w hF hS
  refine wpl_or 3 10 3 hF hS rfl rfl rfl rfl rfl (fun hg => have hg := (by first | exact of_decide_eq_false hg | exact hg); sq_go 10 rfl rfl rfl (q_move rfl) <|
      sq_go 10 rfl rfl rfl (q_len_s ty9 rfl) <|
      sq_go 10 rfl rfl rfl (q_gti rfl rfl) <|
      sq_end) rfl rfl ?_
  clear hF hS; intro a w hF hS
  refine wpList_nil ?_
  refine hK4 _ _ ?_
  clear hK4
  refine wp_if hF rfl (fun hc1 => ?_) (fun hc1 => ?_)
  · (try simp only [Bool.or_eq_true, Bool.and_eq_true, Bool.or_eq_false_iff, Bool.and_eq_false_iff, decide_eq_true_eq, decide_eq_false_iff_not, Bool.not_eq_true', Bool.not_eq_false'] at hc1)
    refine wp_seq_k ?_; intro K5 hK5
    refine reg hF hS (sq rfl (q_move rfl) <|
        sq rfl (q_assign rfl) <|
        sq_end) ?_
    clear hF hS; intro a w hF hS
    refine hK5 _ _ ?_
    clear hK5
    refine wp_ret ?_
    exact fn_ret (rs := [.tmp 4]) rfl hF hS (vs := [_]) ⟨rfl, trivial⟩ (List.nil_sublist _) (List.nil_sublist _) (rfl)
  · (try simp only [Bool.or_eq_true, Bool.and_eq_true, Bool.or_eq_false_iff, Bool.and_eq_false_iff, decide_eq_true_eq, decide_eq_false_iff_not, Bool.not_eq_true', Bool.not_eq_false'] at hc1)
    refine wp_skip ?_
    refine hK3 _ _ ?_
    clear hK3
    refine wp_seq_k ?_; intro K6 hK6
    refine reg hF hS (sq rfl (q_move rfl) <|
        sq rfl (q_move rfl) <|
        sq_go 17 rfl rfl rfl (q_move rfl) <|
        sq_go 17 rfl rfl rfl (q_move rfl) <|
        sq_go 17 rfl rfl rfl (q_call fn18 rfl (fun w hS => mac_ct _ _ (by first | assumption | omega) (by first | assumption | omega) w (hS.ext _ _ hg1)) (fun _ _ _ h => h)) <|
        sq_go 17 rfl rfl rfl (q_move rfl) <|
        sq_go 17 rfl rfl rfl (q_move rfl) <|
        sq_go 17 rfl rfl rfl (q_call fn19 rfl (fun w hS => rmac_ct _ _ (by first | with_reducible assumption | omega) (by first | with_reducible assumption | omega) w (hS.ext _ _ hg0)) (fun _ _ _ h => h)) <|
        sq_go 17 rfl rfl rfl (q_dt (q_eqs rfl rfl) (rfl)) <|
        sq rfl (q_pick_t rfl rfl) <|
        sq rfl (q_assign rfl) <|
        sq_end) ?_
    clear hF hS; intro a w hF hS
    refine hK6 _ _ ?_
    clear hK6
    refine wp_ret ?_
    exact fn_ret (rs := [.tmp 4]) rfl hF hS (vs := [_]) ⟨rfl, trivial⟩ (List.nil_sublist _) (List.nil_sublist _) (rfl)

set_option maxHeartbeats 2000000 in
theorem law4_ct (x y : List UInt8) (w : World) {fz1 : Nat × Nat} {bt1 : TypeId} (hg1 : w.heap[1]? = some (.cells (Sha.kc.map vw).toArray bt1 fz1)) : Ct Tryd.prog 6 [vs x, vs y] w (fun r _ _ => r = .bool true) := by
  refine fn_enter Tryd.func6 rfl Tryd.ntmps6 (Nat.le_of_ble_eq_true rfl) fun a hF hS => ?_
  have hml := Sha.mac_len x y
  have hsl := Sha.sum_len x
  refine wp_seq_k ?_; intro K1 hK1
  refine reg hF hS (sq rfl (q_assign rfl) <|
      sq_end) ?_
  clear hF hS; intro a w hF hS
  refine hK1 _ _ ?_
  clear hK1
  refine wp_seq_k ?_; intro K2 hK2
  refine reg hF hS (sq rfl (q_call fn10 rfl (fun w hS => sanity_ct w (hS.ext _ _ hg1)) (fun _ _ _ h => h)) <|
      sq rfl (q_assign rfl) <|
      sq_end) ?_
  clear hF hS; intro a w hF hS
  refine hK2 _ _ ?_
  clear hK2
  refine wp_seq_k ?_; intro K3 hK3
  refine wp_seq_k ?_; intro K4 hK4
  refine regl ?_
  refine wpl_sq hF hS (sq rfl (q_move rfl) <|
      sq rfl (q_len_s ty9 rfl) <|
      sq rfl (q_gti rfl rfl) <|
      sq rfl (q_move rfl) <|
      sq_end) ?_
  clear hF hS; intro a w hF hS
  refine wpl_or 3 12 3 hF hS rfl rfl rfl rfl rfl (fun hg => have hg := (by first | exact of_decide_eq_false hg | exact hg); sq_go 12 rfl rfl rfl (q_move rfl) <|
      sq_go 12 rfl rfl rfl (q_len_s ty9 rfl) <|
      sq_go 12 rfl rfl rfl (q_gti rfl rfl) <|
      sq_end) rfl rfl ?_
  clear hF hS; intro a w hF hS
  refine wpList_nil ?_
  refine hK4 _ _ ?_
  clear hK4
  refine wp_if hF rfl (fun hc1 => ?_) (fun hc1 => ?_)
  · (try simp only [Bool.or_eq_true, Bool.and_eq_true, Bool.or_eq_false_iff, Bool.and_eq_false_iff, decide_eq_true_eq, decide_eq_false_iff_not, Bool.not_eq_true', Bool.not_eq_false'] at hc1)
    refine wp_seq_k ?_; intro K5 hK5
    refine reg hF hS (sq rfl (q_move rfl) <|
        sq rfl (q_assign rfl) <|
        sq_end) ?_
    clear hF hS; intro a w hF hS
    refine hK5 _ _ ?_
    clear hK5
    refine wp_ret ?_
    exact fn_ret (rs := [.tmp 4]) rfl hF hS (vs := [_]) ⟨rfl, trivial⟩ (List.nil_sublist _) (List.nil_sublist _) (rfl)
  · (try simp only [Bool.or_eq_true, Bool.and_eq_true, Bool.or_eq_false_iff, Bool.and_eq_false_iff, decide_eq_true_eq, decide_eq_false_iff_not, Bool.not_eq_true', Bool.not_eq_false'] at hc1)
    refine wp_skip ?_
    refine hK3 _ _ ?_
    clear hK3
    refine wp_seq_k ?_; intro K6 hK6
    refine reg hF hS (sq rfl (q_move rfl) <|
        sq rfl (q_move rfl) <|
        sq rfl (q_call fn18 rfl (fun w hS => mac_ct _ _ (by first | assumption | omega) (by first | assumption | omega) w (hS.ext _ _ hg1)) (fun _ _ _ h => h)) <|
        sq rfl (q_assign rfl) <|
        sq_end) ?_
    clear hF hS; intro a w hF hS
    refine hK6 _ _ ?_
    clear hK6
    refine wp_seq_k ?_; intro K7 hK7
    refine wp_seq_k ?_; intro K8 hK8
    refine reg hF hS (sq rfl (q_move rfl) <|
        sq rfl (q_len_s ty9 rfl) <|
        sq rfl (q_gti rfl rfl) <|
        sq_end) ?_
    clear hF hS; intro a w hF hS
    refine hK8 _ _ ?_
    clear hK8
    refine wp_ifd hF rfl (fun hc2 => ?_) (fun hc2 => ?_)
    · refine wp_seq_k ?_; intro K9 hK9
      refine regl ?_
      refine wpl_sq hF hS (sq rfl (q_move rfl) <|
          sq_end) ?_
      clear hF hS; intro a w hF hS
      refine wpl_ef hF hS rfl (ef_s2b ty9 ty22 ty5 rfl (by omega)) ?_
      clear hF hS; rintro v1 _ _ a w ⟨z2, rfl, rfl, hz3⟩ hF hS
      refine wpl_sq hF hS (sq rfl (q_call fn11 rfl (fun w hS => sum_ct _ _ (by first | assumption | omega) w (Sl.mono (hS.le (.inr (by simp))) hz3) (hS.ext _ _ hg1)) (fun _ _ _ h => h)) <|
          sq rfl (q_call fn20 rfl (fun w hS => rb32_ct _ (by first | with_reducible assumption | omega | (simp; omega)) w ) (fun _ _ _ h => h)) <|
          sq rfl (q_assign rfl) <|
          sq_end) ?_
      clear hF hS; intro a w hF hS
      refine wpList_nil ?_
      refine hK9 _ _ ?_
      clear hK9
      refine wp_seq_k ?_; intro K10 hK10
      refine reg hF hS (sq rfl (q_move rfl) <|
          sq rfl (q_move rfl) <|
          sq_go 29 rfl rfl rfl (q_move rfl) <|
          sq_go 29 rfl rfl rfl (q_move rfl) <|
          sq_go 29 rfl rfl rfl (q_move rfl) <|
          sq_go 29 rfl rfl rfl (q_call fn18 rfl (fun w hS => mac_ct _ _ (by first | assumption | omega) (by first | assumption | omega) w (hS.ext _ _ hg1)) (fun _ _ _ h => h)) <|
          sq_go 29 rfl rfl rfl (q_dt (q_eqs rfl rfl) (Sha.mac_long x y (by omega))) <|
          sq rfl (q_pick_t rfl rfl) <|
          sq rfl (q_assign rfl) <|
          sq_end) ?_
      clear hF hS; intro a w hF hS
      refine hK10 _ _ ?_
      clear hK10
      refine wp_ret ?_
      exact fn_ret (rs := [.tmp 4]) rfl hF hS (vs := [_]) ⟨rfl, trivial⟩ (List.nil_sublist _) (List.nil_sublist _) (rfl)
    · refine wp_skip ?_
      refine hK7 _ _ ?_
      clear hK7
      refine wp_seq_k ?_; intro K11 hK11
      refine wp_seq_k ?_; intro K12 hK12
      refine reg hF hS (sq rfl (q_move rfl) <|
          sq rfl (q_len_s ty9 rfl) <|
          sq rfl (q_lti rfl rfl) <|
          sq_end) ?_
      clear hF hS; intro a w hF hS
      refine hK12 _ _ ?_
      clear hK12
      refine wp_ifd hF rfl (fun hc3 => ?_) (fun hc3 => ?_)
      · refine wp_seq_k ?_; intro K13 hK13
        refine reg hF hS (sq rfl (q_move rfl) <|
            sq rfl (q_move rfl) <|
            sq_go 40 rfl rfl rfl (q_move rfl) <|
            sq_go 40 rfl rfl rfl (q_move rfl) <|
            sq_go 40 rfl rfl rfl (q_adds (q := [0]) rfl rfl (by first | omega | (simp; omega) | (simp [*]; done) | decide | (simp [*]; omega))) <|
            sq_go 40 rfl rfl rfl (q_move rfl) <|
            sq_go 40 rfl rfl rfl (q_call fn18 rfl (fun w hS => mac_ct _ _ (by simp; omega) (by omega) w (hS.ext _ _ hg1)) (fun _ _ _ h => h)) <|
            sq_go 40 rfl rfl rfl (q_dt (q_eqs rfl rfl) (Sha.mac_zero x y (by omega))) <|
            sq rfl (q_pick_t rfl rfl) <|
            sq rfl (q_assign rfl) <|
            sq_end) ?_
        clear hF hS; intro a w hF hS
        refine hK13 _ _ ?_
        clear hK13
        refine wp_ret ?_
        exact fn_ret (rs := [.tmp 4]) rfl hF hS (vs := [_]) ⟨rfl, trivial⟩ (List.nil_sublist _) (List.nil_sublist _) (rfl)
      · refine wp_skip ?_
        refine hK11 _ _ ?_
        clear hK11
        refine wp_seq_k ?_; intro K14 hK14
        refine reg hF hS (sq rfl (q_move rfl) <|
            sq rfl (q_move rfl) <|
            sq_go 49 rfl rfl rfl (q_move rfl) <|
            sq_go 49 rfl rfl rfl (q_len_s ty9 rfl) <|
            sq_go 49 rfl rfl rfl (q_dt (q_eqi rfl rfl) (by omega)) <|
            sq rfl (q_pick_t rfl rfl) <|
            sq rfl (q_assign rfl) <|
            sq_end) ?_
        clear hF hS; intro a w hF hS
        refine hK14 _ _ ?_
        clear hK14
        refine wp_ret ?_
        exact fn_ret (rs := [.tmp 4]) rfl hF hS (vs := [_]) ⟨rfl, trivial⟩ (List.nil_sublist _) (List.nil_sublist _) (rfl)

set_option maxHeartbeats 2000000 in
theorem law7_ct (x y : List UInt8) (w : World) {fz1 : Nat × Nat} {bt1 : TypeId} (hg1 : w.heap[1]? = some (.cells (Sha.kc.map vw).toArray bt1 fz1)) : Ct Tryd.prog 9 [vs x, vs y] w (fun r _ _ => r = .bool true) := by
  refine fn_enter Tryd.func9 rfl Tryd.ntmps9 (Nat.le_of_ble_eq_true rfl) fun a hF hS => ?_
  refine wp_seq_k ?_; intro K1 hK1
  refine reg hF hS (sq rfl (q_assign rfl) <|
      sq_end) ?_
  clear hF hS; intro a w hF hS
  refine hK1 _ _ ?_
  clear hK1
  refine wp_seq_k ?_; intro K2 hK2
  refine reg hF hS (sq rfl (q_call fn10 rfl (fun w hS => sanity_ct w (hS.ext _ _ hg1)) (fun _ _ _ h => h)) <|
      sq rfl (q_assign rfl) <|
      sq_end) ?_
  clear hF hS; intro a w hF hS
  refine hK2 _ _ ?_
  clear hK2
  refine wp_seq_k ?_; intro K3 hK3
  refine wp_seq_k ?_; intro K4 hK4
  refine regl ?_
  refine wpl_sq hF hS (sq rfl (q_move rfl) <|
      sq rfl (q_len_s ty9 rfl) <|
      sq rfl (q_gti rfl rfl) <|
      sq rfl (q_move rfl) <|
      sq_end) ?_
  clear hF hS; intro a w hF hS
  refine wpl_or 3 13 3 hF hS rfl rfl rfl rfl rfl (fun hg => have hg := (by first | exact of_decide_eq_false hg | exact hg); sq_go 13 rfl rfl rfl (q_move rfl) <|
      sq_go 13 rfl rfl rfl (q_len_s ty9 rfl) <|
      sq_go 13 rfl rfl rfl (q_gti rfl rfl) <|
      sq_end) rfl rfl ?_
  clear hF hS; intro a w hF hS
  refine wpList_nil ?_
  refine hK4 _ _ ?_
  clear hK4
  refine wp_if hF rfl (fun hc1 => ?_) (fun hc1 => ?_)
  · (try simp only [Bool.or_eq_true, Bool.and_eq_true, Bool.or_eq_false_iff, Bool.and_eq_false_iff, decide_eq_true_eq, decide_eq_false_iff_not, Bool.not_eq_true', Bool.not_eq_false'] at hc1)
    refine wp_seq_k ?_; intro K5 hK5
    refine reg hF hS (sq rfl (q_move rfl) <|
        sq rfl (q_assign rfl) <|
        sq_end) ?_
    clear hF hS; intro a w hF hS
    refine hK5 _ _ ?_
    clear hK5
    refine wp_ret ?_
    exact fn_ret (rs := [.tmp 4]) rfl hF hS (vs := [_]) ⟨rfl, trivial⟩ (List.nil_sublist _) (List.nil_sublist _) (rfl)
  · (try simp only [Bool.or_eq_true, Bool.and_eq_true, Bool.or_eq_false_iff, Bool.and_eq_false_iff, decide_eq_true_eq, decide_eq_false_iff_not, Bool.not_eq_true', Bool.not_eq_false'] at hc1)
    refine wp_skip ?_
    refine hK3 _ _ ?_
    clear hK3
    refine wp_seq_k ?_; intro K6 hK6
    refine reg hF hS (sq rfl (q_move rfl) <|
        sq rfl (q_move rfl) <|
        sq rfl (q_call fn24 rfl (fun w hS => equal_ct _ _ (by first | with_reducible assumption | omega) (by first | with_reducible assumption | omega) w ) (fun _ _ _ h => h)) <|
        sq rfl (q_assign rfl) <|
        sq_end) ?_
    clear hF hS; intro a w hF hS
    refine hK6 _ _ ?_
    clear hK6
    refine wp_seq_k ?_; intro K7 hK7
    refine reg hF hS (sq rfl (q_move rfl) <|
        sq rfl (q_move rfl) <|
        sq rfl (q_call fn24 rfl (fun w hS => equal_ct _ _ (by first | with_reducible assumption | omega) (by first | with_reducible assumption | omega) w ) (fun _ _ _ h => h)) <|
        sq rfl (q_assign rfl) <|
        sq_end) ?_
    clear hF hS; intro a w hF hS
    refine hK7 _ _ ?_
    clear hK7
    refine wp_seq_k ?_; intro K8 hK8
    refine reg hF hS (sq rfl (q_move rfl) <|
        sq rfl (q_move rfl) <|
        sq rfl (q_adds (q := []) rfl rfl (by first | omega | (simp; omega) | (simp [*]; done) | decide | (simp [*]; omega))) <|
        sq rfl (q_bt (q_call fn24 rfl (fun w hS => equal_ct _ _ (by omega) (by simp; omega) w ) (fun _ _ _ h => h)) (by simp)) <|
        sq rfl (q_assign rfl) <|
        sq_end) ?_
    clear hF hS; intro a w hF hS
    refine hK8 _ _ ?_
    clear hK8
    refine wp_seq_k ?_; intro K9 hK9
    refine reg hF hS (sq rfl (q_move rfl) <|
        sq rfl (q_move rfl) <|
        sq_go 30 rfl rfl rfl (q_move rfl) <|
        sq_go 30 rfl rfl rfl (q_move rfl) <|
        sq_go 30 rfl rfl rfl (q_move rfl) <|
        sq_go 30 rfl rfl rfl (q_eqs rfl rfl) <|
        sq_go 30 rfl rfl rfl (q_bt (q_eqt ty4 rfl rfl) (by simp)) <|
        sq rfl (q_pick_t rfl rfl) <|
        sq rfl (q_move rfl) <|
        sq_go 37 rfl rfl rfl (q_move rfl) <|
        sq_go 37 rfl rfl rfl (q_move rfl) <|
        sq_go 37 rfl rfl rfl (q_bt (q_eqt ty4 rfl rfl) (by simp [eq_comm])) <|
        sq rfl (q_pick_t rfl rfl) <|
        sq rfl (q_move rfl) <|
        sq_go 42 rfl rfl rfl (q_move rfl) <|
        sq rfl (q_pick_t rfl rfl) <|
        sq rfl (q_assign rfl) <|
        sq_end) ?_
    clear hF hS; intro a w hF hS
    refine hK9 _ _ ?_
    clear hK9
    refine wp_ret ?_
    exact fn_ret (rs := [.tmp 4]) rfl hF hS (vs := [_]) ⟨rfl, trivial⟩ (List.nil_sublist _) (List.nil_sublist _) (rfl)
end Go.Proofs.YtkpfjkoeglpfoaaDoor
