/- A text of a proof over this seat: walks over the program's functions and the plain laws that they need. -/
import Derived.Test.YtcolgcdnpfpcdaaVw7
import Derived.Test.YtcolgcdnpfpcdaaWi7
set_option linter.all false
namespace Go.Proofs.Ytcolgcdnpfpcdaa
open Go.Fw
theorem ty4 : Tf Try.prog 4 .bool 1 1 (Value.bool false) := ⟨Try.underlying4, by kernel_rfl⟩
theorem fn12 : FnOk Try.prog 12 := ⟨_, Try.func12, rfl, by kernel_rfl⟩
theorem fn29 : FnOk Try.prog 29 := ⟨_, Try.func29, rfl, by kernel_rfl⟩
theorem fn32 : FnOk Try.prog 32 := ⟨_, Try.func32, rfl, by kernel_rfl⟩
theorem fn35 : FnOk Try.prog 35 := ⟨_, Try.func35, rfl, by kernel_rfl⟩

theorem rg_use {n : Int} (h : Wi.Rg n) : -9223372036854775808 ≤ n ∧ n ≤ 9223372036854775807 := h

attribute [local irreducible] Wi.int Wi.bytes Wi.ints Wi.strs Wi.dgs Ls.encT Wi.getInt Wi.valBE Wi.vj Wi.cnt Wi.wcnt Wi.getBytes Wi.run Wi.getList Wi.getDigs Wi.dgL Wi.Rg

set_option maxHeartbeats 2000000 in
theorem law10_ct (m n : Int) (hm : Wi.Rg m) (hn : Wi.Rg n) (w : World) : Ct Try.prog 5 [vi m, vi n] w (fun r _ _ => r = .bool true) := by
  refine fn_enter Try.func5 rfl Try.ntmps5 (Nat.le_of_ble_eq_true rfl) fun a hF hS => ?_
  have hlm := Wi.int_len9 m
  have hln := Wi.int_len9 n
  refine wp_seq_k ?_; intro K1 hK1
  refine reg hF hS (sq rfl (q_assign rfl) <|
      sq_end) ?_
  clear hF hS; intro a w hF hS
  refine hK1 _ _ ?_
  clear hK1
  refine wp_seq_k ?_; intro K2 hK2
  revert hF hS; apply regJ (J := J2 (α0 := Value) (α1 := Value) 51 _ _ _ _ _) #[false, false, false, false, false, false, false, false] 8 mixed rfl rfl
  · intro w hF hS
    refine goW_take 0 #[true, false, false, false, false, false, false, false] rfl (by kernel_rfl) rfl hF (hS.keep (List.Sublist.refl _) (List.nil_sublist _)) (q_move rfl) ?_
    clear hF; intro a hF
    refine goW_take 3 #[true, false, false, true, false, false, false, false] rfl (by kernel_rfl) rfl hF (hS.keep (List.Sublist.refl _) (List.nil_sublist _)) (q_move rfl) ?_
    clear hF; intro a hF
    refine goW_fork [1] (by kernel_rfl) rfl ⟨?_, trivial⟩
    refine stepW_ef #[true, true, false, true, false, false, false, false] rfl rfl hF hS rfl (ef_call fn14 rfl (fun w hS => wint_ct _ w )) ?_
    clear hF hS; rintro v_1_1 _ _ a w ⟨_, _, rfl, rfl, rfl, rfl⟩ hF hS
    replace hS : St _ [] [_] _ := hS
    refine ⟨⟨.inr (hS.keep (List.nil_sublist _) (List.nil_sublist _)), .inl (by kernel_rfl), trivial⟩, ?_⟩
    refine goW_take 2 #[true, true, true, true, false, false, false, false] rfl (by kernel_rfl) rfl hF (hS.keep (List.Sublist.refl _) (List.Sublist.refl _)) (q_b2s_row ty28 ty9 ty5 0 rfl rfl) ?_
    clear hF; intro a hF
    refine goW_fork [4] (by kernel_rfl) rfl ⟨?_, trivial⟩
    refine stepW_ef #[true, true, true, true, true, false, false, false] rfl rfl hF hS rfl (ef_call fn14 rfl (fun w hS => wint_ct _ w )) ?_
    clear hF hS; rintro v_1_4 _ _ a w ⟨_, _, rfl, rfl, rfl, rfl⟩ hF hS
    replace hS : St _ [] [_, _] _ := hS
    refine ⟨⟨.inr (hS.keep (List.nil_sublist _) ((List.Sublist.refl _).cons _)), .inl (by kernel_rfl), .inl (by kernel_rfl), trivial⟩, ?_⟩
    refine goW_take 5 #[true, true, true, true, true, true, false, false] rfl (by kernel_rfl) rfl hF (hS.keep (List.Sublist.refl _) ((List.nil_sublist _).cons_cons _)) (q_b2s_row ty28 ty9 ty5 0 rfl rfl) ?_
    clear hF; intro a hF
    refine goW_take 6 #[true, true, true, true, true, true, true, false] rfl (by kernel_rfl) rfl hF (hS.keep (List.Sublist.refl _) (List.nil_sublist _)) (q_assign rfl) ?_
    clear hF; intro a hF
    refine goW_take 7 #[true, true, true, true, true, true, true, true] rfl (by kernel_rfl) rfl hF (hS.keep (List.Sublist.refl _) (List.nil_sublist _)) (q_assign rfl) ?_
    clear hF; intro a hF
    exact goW_done (by kernel_rfl) (j2_mk v_1_1 v_1_4 (trivial) (hF.sub (L' := [(0, _), (1, _), (5, _), (6, _)]) ⟨rfl, rfl, rfl, rfl, trivial⟩) hS)
  rintro a w ⟨v_1_1, v_1_4, -, hF, hS⟩
  (try dsimp only at hF); (try dsimp only at hS)
  refine hK2 _ _ ?_
  clear hK2
  refine wp_seq_k ?_; intro K3 hK3
  refine reg hF hS (sq rfl (q_move rfl) <|
      sq rfl (q_len_s ty9 rfl) <|
      sq rfl (q_move rfl) <|
      sq rfl (q_len_s ty9 rfl) <|
      sq rfl (q_min rfl rfl) <|
      sq rfl (q_assign rfl) <|
      sq_end) ?_
  clear hF hS; intro a w hF hS
  refine hK3 _ _ ?_
  clear hK3
  refine wp_seq_k ?_; intro K4 hK4
  refine regd mixed (by kernel_rfl) hF hS (sq rfl (q_call fn12 rfl (fun w hS => sanity_ct w ) (fun _ _ _ h => h)) <|
      sq rfl (q_move rfl) <|
      sq_go 20 rfl rfl rfl (q_move rfl) <|
      sq_go 20 rfl rfl rfl (q_move rfl) <|
      sq_go 20 rfl rfl rfl (q_lti rfl rfl) <|
      sq_go 20 rfl rfl rfl (q_move rfl) <|
      sq_go 20 rfl rfl rfl (q_move rfl) <|
      sq_go 20 rfl rfl rfl (q_lts rfl rfl) <|
      sq_go 20 rfl rfl rfl (q_bt (q_eqt ty4 rfl rfl) (Wi.order_eq hm hn)) <|
      sq rfl (q_pick_t rfl rfl) <|
      sq rfl (q_move rfl) <|
      sq_go 29 rfl rfl rfl (q_move rfl) <|
      sq_go 29 rfl rfl rfl (q_move rfl) <|
      sq_go 29 rfl rfl rfl (q_eqi rfl rfl) <|
      sq_go 29 rfl rfl rfl (q_move rfl) <|
      sq_go 29 rfl rfl rfl (q_move rfl) <|
      sq_go 29 rfl rfl rfl (q_eqs rfl rfl) <|
      sq_go 29 rfl rfl rfl (q_bt (q_eqt ty4 rfl rfl) (Wi.same_iff ⟨fun h => by rw [h], Wi.int_inj hm hn⟩)) <|
      sq rfl (q_pick_t rfl rfl) <|
      sq rfl (q_move rfl) <|
      sq_go 38 rfl rfl rfl (q_move rfl) <|
      sq_go 38 rfl rfl rfl (q_move rfl) <|
      sq_go 38 rfl rfl rfl (q_sl_s_hi ty9 rfl rfl (by omega)) <|
      sq_go 38 rfl rfl rfl (q_move rfl) <|
      sq_go 38 rfl rfl rfl (q_move rfl) <|
      sq_go 38 rfl rfl rfl (q_sl_s_hi ty9 rfl rfl (by omega)) <|
      sq_go 38 rfl rfl rfl (q_eqs rfl rfl) <|
      sq_go 38 rfl rfl rfl (q_move rfl) <|
      sq_go 38 rfl rfl rfl (q_move rfl) <|
      sq_go 38 rfl rfl rfl (q_eqi rfl rfl) <|
      sq_go 38 rfl rfl rfl (q_bt (q_eqt ty4 rfl rfl) (Wi.same_iff (Wi.pre_iff hm hn rfl))) <|
      sq rfl (q_pick_t rfl rfl) <|
      sq rfl (q_assign rfl) <|
      sq_end) ?_
  clear hF hS; intro a w hF hS
  refine hK4 _ _ ?_
  clear hK4
  refine wp_ret ?_
  exact fn_ret (rs := [.tmp 4]) rfl hF hS (vs := [_]) ⟨rfl, trivial⟩ (List.nil_sublist _) (List.nil_sublist _) (rfl)

set_option maxHeartbeats 2000000 in
theorem law11_ct (n : Int) (v : Value) (xs : List UInt8) (hn : Wi.Rg n) (w : World) (hb : Sl encB (ph w) v xs) : Ct Try.prog 6 [vi n, v] w (fun r _ _ => r = .bool true) := by
  refine fn_enter Try.func6 rfl Try.ntmps6 (Nat.le_of_ble_eq_true rfl) fun a hF hS => ?_
  have hil := Wi.int_len9 n
  have hbl := hb.1
  have hgi := Wi.getInt_int n (rg_use hn) xs
  refine wp_seq_k ?_; intro K1 hK1
  refine reg hF hS (sq rfl (q_assign rfl) <|
      sq_end) ?_
  clear hF hS; intro a w hF hS
  refine hK1 _ _ ?_
  clear hK1
  refine wp_seq_k ?_; intro K2 hK2
  refine wp_seq_k ?_; intro K3 hK3
  refine reg hF hS (sq rfl (q_move rfl) <|
      sq rfl (q_len_sl ty28 hb rfl) <|
      sq rfl (q_gti rfl rfl) <|
      sq_end) ?_
  clear hF hS; intro a w hF hS
  refine hK3 _ _ ?_
  clear hK3
  refine wp_ifd hF rfl (fun hc1 => ?_) (fun hc1 => ?_)
  · refine wp_seq_k ?_; intro K4 hK4
    refine reg hF hS (sq rfl (q_call fn12 rfl (fun w hS => sanity_ct w ) (fun _ _ _ h => h)) <|
        sq rfl (q_assign rfl) <|
        sq_end) ?_
    clear hF hS; intro a w hF hS
    refine hK4 _ _ ?_
    clear hK4
    refine wp_ret ?_
    exact fn_ret (rs := [.tmp 4]) rfl hF hS (vs := [_]) ⟨rfl, trivial⟩ (List.nil_sublist _) (List.nil_sublist _) (rfl)
  · refine wp_skip ?_
    refine hK2 _ _ ?_
    clear hK2
    refine wp_seq_k ?_; intro K5 hK5
    refine regl ?_
    refine wpl_sq hF hS (sq rfl (q_move rfl) <|
        sq_end) ?_
    clear hF hS; intro a w hF hS
    refine wpl_ef hF hS rfl (ef_call fn14 rfl (fun w hS => wint_ct _ w )) ?_
    clear hF hS; rintro v1 _ _ a w ⟨_, _, rfl, rfl, rfl, rfl⟩ hF hS
    replace hS : St _ [] [_] _ := hS
    refine wpl_sq hF hS (sq rfl (q_assign rfl) <|
        sq_end) ?_
    clear hF hS; intro a w hF hS
    refine wpList_nil ?_
    obtain ⟨z3, hz4, hS⟩ := St.freezeB hS (by first | rfl | (simp; done) | (simp; omega)) (by first | omega | (rw [List.length_map]; omega) | (simp; omega) | (simp [*]; done) | decide | (simp [*]; omega))
    replace hS : St _ [_] [] _ := hS
    refine hK5 _ _ ?_
    clear hK5
    refine wp_seq_k ?_; intro K6 hK6
    refine regl ?_
    refine wpl_sq hF hS (sq rfl (q_move rfl) <|
        sq rfl (q_move rfl) <|
        sq rfl (q_len_sl ty28 hz4 rfl) <|
        sq rfl (q_move rfl) <|
        sq rfl (q_len_sl ty28 hz4 rfl) <|
        sq rfl (q_slsl_full ty28 ty5 hz4 rfl rfl rfl (by first | omega | (rw [List.length_map]; omega) | (simp; omega) | (simp [*]; done) | decide | (simp [*]; omega)) (by first | omega | (rw [List.length_map]; omega) | (simp; omega) | (simp [*]; done) | decide | (simp [*]; omega))) <|
        sq rfl (q_move rfl) <|
        sq_end) ?_
    clear hF hS; intro a w hF hS
    refine wpl_ef hF hS rfl (ef_append_full ty28 ty5 hz4 (by simp) rfl rfl (src_slV ty28 hb zin0) (fun _ _ => trivial) (fun _ _ => trivial) (by first | omega | (rw [List.length_map]; omega) | (simp; omega) | (simp [*]; done) | decide | (simp [*]; omega)) (by first | omega | (rw [List.length_map]; omega) | (simp; omega) | (simp [*]; done) | decide | (simp [*]; omega)) rfl) ?_
    clear hF hS; rintro v5 _ _ a w ⟨z6, rfl, rfl, hz7⟩ hF hS
    replace hS : St _ [_, _] [] _ := hS
    refine wpl_sq hF hS (sq rfl (q_call fn24 rfl (fun w hS => wgi_ct _ _ w (Sl.mono (hS.le (.inr (by simp))) hz7)) (fun _ _ _ h => h)) <|
        sq rfl (q_move rfl) <|
        sq rfl (q_extract rfl rfl) <|
        sq rfl (q_extract rfl rfl) <|
        sq rfl (q_extract rfl rfl) <|
        sq rfl (q_assign rfl) <|
        sq rfl (q_assign rfl) <|
        sq rfl (q_assign rfl) <|
        sq_end) ?_
    clear hF hS; intro a w hF hS
    refine wpList_nil ?_
    refine hK6 _ _ ?_
    clear hK6
    refine wp_seq_k ?_; intro K7 hK7
    refine reg hF hS (sq rfl (q_call fn12 rfl (fun w hS => sanity_ct w ) (fun _ _ _ h => h)) <|
        sq rfl (q_move rfl) <|
        sq_go 29 rfl rfl rfl (q_move rfl) <|
        sq_go 29 rfl rfl rfl (q_move rfl) <|
        sq_go 29 rfl rfl rfl (q_dt (q_eqi rfl rfl) (by rw [hgi])) <|
        sq rfl (q_pick_t rfl rfl) <|
        sq rfl (q_move rfl) <|
        sq_go 34 rfl rfl rfl (q_move rfl) <|
        sq_go 34 rfl rfl rfl (q_move rfl) <|
        sq_go 34 rfl rfl rfl (q_len_sl ty28 hz4 rfl) <|
        sq_go 34 rfl rfl rfl (q_dt (q_eqi rfl rfl) (by rw [hgi])) <|
        sq rfl (q_pick_t rfl rfl) <|
        sq rfl (q_move rfl) <|
        sq_go 40 rfl rfl rfl (q_move rfl) <|
        sq_go 40 rfl rfl rfl (q_dt (q_eqi rfl rfl) (by rw [hgi])) <|
        sq rfl (q_pick_t rfl rfl) <|
        sq rfl (q_move rfl) <|
        sq_go 44 rfl rfl rfl (q_move rfl) <|
        sq_go 44 rfl rfl rfl (q_dt (q_gei rfl rfl) (by rw [hgi]; dsimp only; omega)) <|
        sq rfl (q_pick_t rfl rfl) <|
        sq rfl (q_move rfl) <|
        sq_go 48 rfl rfl rfl (q_move rfl) <|
        sq_go 48 rfl rfl rfl (q_dt (q_lei rfl rfl) (by rw [hgi]; dsimp only; omega)) <|
        sq rfl (q_pick_t rfl rfl) <|
        sq rfl (q_assign rfl) <|
        sq_end) ?_
    clear hF hS; intro a w hF hS
    refine hK7 _ _ ?_
    clear hK7
    refine wp_ret ?_
    exact fn_ret (rs := [.tmp 4]) rfl hF hS (vs := [_]) ⟨rfl, trivial⟩ (List.nil_sublist _) (List.nil_sublist _) (rfl)

set_option maxHeartbeats 2000000 in
theorem law9_ct (v : Value) (xs : List UInt8) (w : World) (hb : Sl encB (ph w) v xs) : Ct Try.prog 4 [v] w (fun r _ _ => r = .bool true) := by
  refine fn_enter Try.func4 rfl Try.ntmps4 (Nat.le_of_ble_eq_true rfl) fun a hF hS => ?_
  have hbl := hb.1
  refine wp_seq_k ?_; intro K1 hK1
  refine reg hF hS (sq rfl (q_assign rfl) <|
      sq_end) ?_
  clear hF hS; intro a w hF hS
  refine hK1 _ _ ?_
  clear hK1
  refine wp_seq_k ?_; intro K2 hK2
  refine wp_seq_k ?_; intro K3 hK3
  refine reg hF hS (sq rfl (q_move rfl) <|
      sq rfl (q_len_sl ty28 hb rfl) <|
      sq rfl (q_gti rfl rfl) <|
      sq_end) ?_
  clear hF hS; intro a w hF hS
  refine hK3 _ _ ?_
  clear hK3
  refine wp_ifd hF rfl (fun hc1 => ?_) (fun hc1 => ?_)
  · refine wp_seq_k ?_; intro K4 hK4
    refine reg hF hS (sq rfl (q_call fn12 rfl (fun w hS => sanity_ct w ) (fun _ _ _ h => h)) <|
        sq rfl (q_assign rfl) <|
        sq_end) ?_
    clear hF hS; intro a w hF hS
    refine hK4 _ _ ?_
    clear hK4
    refine wp_ret ?_
    exact fn_ret (rs := [.tmp 2]) rfl hF hS (vs := [_]) ⟨rfl, trivial⟩ (List.nil_sublist _) (List.nil_sublist _) (rfl)
  · refine wp_skip ?_
    refine hK2 _ _ ?_
    clear hK2
    refine wp_seq_k ?_; intro K5 hK5
    refine reg hF hS (sq rfl (q_move rfl) <|
        sq rfl (q_call fn24 rfl (fun w hS => wgi_ct _ _ w (Sl.mono (hS.le zin0) hb)) (fun _ _ _ h => h)) <|
        sq rfl (q_move rfl) <|
        sq rfl (q_extract rfl rfl) <|
        sq rfl (q_extract rfl rfl) <|
        sq rfl (q_extract rfl rfl) <|
        sq rfl (q_assign rfl) <|
        sq rfl (q_assign rfl) <|
        sq rfl (q_assign rfl) <|
        sq_end) ?_
    clear hF hS; intro a w hF hS
    refine hK5 _ _ ?_
    clear hK5
    refine wp_seq_k ?_; intro K6 hK6
    refine reg hF hS (sq rfl (q_move rfl) <|
        sq rfl (q_call fn25 rfl (fun w hS => rgi_ct _ _ w (Sl.mono (hS.le zin0) hb)) (fun _ _ _ h => h)) <|
        sq rfl (q_move rfl) <|
        sq rfl (q_extract rfl rfl) <|
        sq rfl (q_extract rfl rfl) <|
        sq rfl (q_extract rfl rfl) <|
        sq rfl (q_assign rfl) <|
        sq rfl (q_assign rfl) <|
        sq rfl (q_assign rfl) <|
        sq_end) ?_
    clear hF hS; intro a w hF hS
    refine hK6 _ _ ?_
    clear hK6
    refine wp_seq_k ?_; intro K7 hK7
    refine wp_seq_k ?_; intro K8 hK8
    refine reg hF hS (sq rfl (q_move rfl) <|
        sq rfl (q_move rfl) <|
        sq rfl (q_nf (q_nei rfl rfl) (rfl)) <|
        sq rfl (q_move rfl) <|
        sq_go 52 rfl rfl rfl (q_move rfl) <|
        sq_go 52 rfl rfl rfl (q_move rfl) <|
        sq_go 52 rfl rfl rfl (q_nf (q_nei rfl rfl) (rfl)) <|
        sq rfl (q_pick_f rfl rfl) <|
        sq rfl (q_move rfl) <|
        sq_go 57 rfl rfl rfl (q_move rfl) <|
        sq_go 57 rfl rfl rfl (q_move rfl) <|
        sq_go 57 rfl rfl rfl (q_nf (q_nei rfl rfl) (rfl)) <|
        sq rfl (q_pick_f rfl rfl) <|
        sq_end) ?_
    clear hF hS; intro a w hF hS
    refine hK8 _ _ ?_
    clear hK8
    refine wp_if hF rfl (fun h => absurd h (by simp)) (fun _ => ?_)
    refine wp_skip ?_
    refine hK7 _ _ ?_
    clear hK7
    refine wp_seq_k ?_; intro K9 hK9
    refine reg hF hS (sq rfl (q_move rfl) <|
        sq rfl (q_call fn26 rfl (fun w hS => wgb_ct _ _ w (Sl.mono (hS.le zin0) hb)) (fun _ _ _ h => h)) <|
        sq rfl (q_move rfl) <|
        sq rfl (q_extract rfl rfl) <|
        sq rfl (q_extract rfl rfl) <|
        sq rfl (q_extract rfl rfl) <|
        sq rfl (q_assign rfl) <|
        sq rfl (q_assign rfl) <|
        sq rfl (q_assign rfl) <|
        sq_end) ?_
    clear hF hS; intro a w hF hS
    refine hK9 _ _ ?_
    clear hK9
    refine wp_seq_k ?_; intro K10 hK10
    refine reg hF hS (sq rfl (q_move rfl) <|
        sq rfl (q_call fn27 rfl (fun w hS => rgb_ct _ _ w (Sl.mono (hS.le zin0) hb)) (fun _ _ _ h => h)) <|
        sq rfl (q_move rfl) <|
        sq rfl (q_extract rfl rfl) <|
        sq rfl (q_extract rfl rfl) <|
        sq rfl (q_extract rfl rfl) <|
        sq rfl (q_assign rfl) <|
        sq rfl (q_assign rfl) <|
        sq rfl (q_assign rfl) <|
        sq_end) ?_
    clear hF hS; intro a w hF hS
    refine hK10 _ _ ?_
    clear hK10
    refine wp_seq_k ?_; intro K11 hK11
    refine wp_seq_k ?_; intro K12 hK12
    refine reg hF hS (sq rfl (q_move rfl) <|
        sq rfl (q_move rfl) <|
        sq rfl (q_nf (q_nes rfl rfl) (rfl)) <|
        sq rfl (q_move rfl) <|
        sq_go 77 rfl rfl rfl (q_move rfl) <|
        sq_go 77 rfl rfl rfl (q_move rfl) <|
        sq_go 77 rfl rfl rfl (q_nf (q_nei rfl rfl) (rfl)) <|
        sq rfl (q_pick_f rfl rfl) <|
        sq rfl (q_move rfl) <|
        sq_go 82 rfl rfl rfl (q_move rfl) <|
        sq_go 82 rfl rfl rfl (q_move rfl) <|
        sq_go 82 rfl rfl rfl (q_nf (q_nei rfl rfl) (rfl)) <|
        sq rfl (q_pick_f rfl rfl) <|
        sq_end) ?_
    clear hF hS; intro a w hF hS
    refine hK12 _ _ ?_
    clear hK12
    refine wp_if hF rfl (fun h => absurd h (by simp)) (fun _ => ?_)
    refine wp_skip ?_
    refine hK11 _ _ ?_
    clear hK11
    refine wp_seq_k ?_; intro K13 hK13
    refine regl ?_
    refine wpl_sq hF hS (sq rfl (q_move rfl) <|
        sq_end) ?_
    clear hF hS; intro a w hF hS
    refine wpl_ef hF hS rfl (ef_call fn28 rfl (fun w hS => wgis_ct _ _ (by first | with_reducible assumption | omega) w (Sl.mono (hS.le zin0) hb))) ?_
    clear hF hS; rintro _ _ _ a w ⟨_, _, rfl, rfl, ⟨v2, z3, rfl, hz4, rfl, rfl⟩⟩ hF hS
    replace hS : St _ [_] [] _ := hS
    refine wpl_sq hF hS (sq rfl (q_move rfl) <|
        sq rfl (q_extract rfl rfl) <|
        sq rfl (q_extract rfl rfl) <|
        sq rfl (q_extract rfl rfl) <|
        sq rfl (q_assign rfl) <|
        sq rfl (q_assign rfl) <|
        sq rfl (q_assign rfl) <|
        sq_end) ?_
    clear hF hS; intro a w hF hS
    refine wpList_nil ?_
    refine hK13 _ _ ?_
    clear hK13
    refine wp_seq_k ?_; intro K14 hK14
    refine regl ?_
    refine wpl_sq hF hS (sq rfl (q_move rfl) <|
        sq_end) ?_
    clear hF hS; intro a w hF hS
    refine wpl_ef hF hS rfl (ef_call fn29 rfl (fun w hS => rgis_ct _ _ (by first | with_reducible assumption | omega) w (Sl.mono (hS.le zin0) hb))) ?_
    clear hF hS; rintro _ _ _ a w ⟨_, _, rfl, rfl, ⟨v6, z7, rfl, hz8, rfl, rfl⟩⟩ hF hS
    replace hS : St _ [_, _] [] _ := hS
    refine wpl_sq hF hS (sq rfl (q_move rfl) <|
        sq rfl (q_extract rfl rfl) <|
        sq rfl (q_extract rfl rfl) <|
        sq rfl (q_extract rfl rfl) <|
        sq rfl (q_assign rfl) <|
        sq rfl (q_assign rfl) <|
        sq rfl (q_assign rfl) <|
        sq_end) ?_
    clear hF hS; intro a w hF hS
    refine wpList_nil ?_
    refine hK14 _ _ ?_
    clear hK14
    refine wp_seq_k ?_; intro K15 hK15
    refine wp_seq_k ?_; intro K16 hK16
    refine reg hF hS (sq rfl (q_move rfl) <|
        sq rfl (q_move rfl) <|
        sq rfl (q_dt (q_call fn30 rfl (fun w hS => samei_ct _ _ _ _ w (Sl.mono (hS.le (.inr (by simp))) hz4) (Sl.mono (hS.le (.inr (by simp))) hz8)) (fun _ _ _ h => h)) (rfl)) <|
        sq rfl (q_not rfl) <|
        sq rfl (q_move rfl) <|
        sq_go 103 rfl rfl rfl (q_move rfl) <|
        sq_go 103 rfl rfl rfl (q_move rfl) <|
        sq_go 103 rfl rfl rfl (q_nf (q_nei rfl rfl) (rfl)) <|
        sq rfl (q_pick_f rfl rfl) <|
        sq rfl (q_move rfl) <|
        sq_go 108 rfl rfl rfl (q_move rfl) <|
        sq_go 108 rfl rfl rfl (q_move rfl) <|
        sq_go 108 rfl rfl rfl (q_nf (q_nei rfl rfl) (rfl)) <|
        sq rfl (q_pick_f rfl rfl) <|
        sq_end) ?_
    clear hF hS; intro a w hF hS
    refine hK16 _ _ ?_
    clear hK16
    refine wp_if hF rfl (fun h => absurd h (by simp)) (fun _ => ?_)
    refine wp_skip ?_
    refine hK15 _ _ ?_
    clear hK15
    refine wp_seq_k ?_; intro K17 hK17
    refine regl ?_
    refine wpl_sq hF hS (sq rfl (q_move rfl) <|
        sq_end) ?_
    clear hF hS; intro a w hF hS
    refine wpl_ef hF hS rfl (ef_call fn31 rfl (fun w hS => wgss_ct _ _ (by first | with_reducible assumption | omega) w (Sl.mono (hS.le zin0) hb))) ?_
    clear hF hS; rintro _ _ _ a w ⟨_, _, rfl, rfl, ⟨v10, z11, rfl, hz12, rfl, rfl⟩⟩ hF hS
    replace hS : St _ [_, _, _] [] _ := hS
    refine wpl_sq hF hS (sq rfl (q_move rfl) <|
        sq rfl (q_extract rfl rfl) <|
        sq rfl (q_extract rfl rfl) <|
        sq rfl (q_extract rfl rfl) <|
        sq rfl (q_assign rfl) <|
        sq rfl (q_assign rfl) <|
        sq rfl (q_assign rfl) <|
        sq_end) ?_
    clear hF hS; intro a w hF hS
    refine wpList_nil ?_
    refine hK17 _ _ ?_
    clear hK17
    refine wp_seq_k ?_; intro K18 hK18
    refine regl ?_
    refine wpl_sq hF hS (sq rfl (q_move rfl) <|
        sq_end) ?_
    clear hF hS; intro a w hF hS
    refine wpl_ef hF hS rfl (ef_call fn32 rfl (fun w hS => rgss_ct _ _ (by first | with_reducible assumption | omega) w (Sl.mono (hS.le zin0) hb))) ?_
    clear hF hS; rintro _ _ _ a w ⟨_, _, rfl, rfl, ⟨v14, z15, rfl, hz16, rfl, rfl⟩⟩ hF hS
    replace hS : St _ [_, _, _, _] [] _ := hS
    refine wpl_sq hF hS (sq rfl (q_move rfl) <|
        sq rfl (q_extract rfl rfl) <|
        sq rfl (q_extract rfl rfl) <|
        sq rfl (q_extract rfl rfl) <|
        sq rfl (q_assign rfl) <|
        sq rfl (q_assign rfl) <|
        sq rfl (q_assign rfl) <|
        sq_end) ?_
    clear hF hS; intro a w hF hS
    refine wpList_nil ?_
    refine hK18 _ _ ?_
    clear hK18
    refine wp_seq_k ?_; intro K19 hK19
    refine wp_seq_k ?_; intro K20 hK20
    refine reg hF hS (sq rfl (q_move rfl) <|
        sq rfl (q_move rfl) <|
        sq rfl (q_dt (q_call fn33 rfl (fun w hS => samet_ct _ _ _ _ w (Sl.mono (hS.le (.inr (by simp))) hz12) (Sl.mono (hS.le (.inr (by simp))) hz16)) (fun _ _ _ h => h)) (rfl)) <|
        sq rfl (q_not rfl) <|
        sq rfl (q_move rfl) <|
        sq_go 129 rfl rfl rfl (q_move rfl) <|
        sq_go 129 rfl rfl rfl (q_move rfl) <|
        sq_go 129 rfl rfl rfl (q_nf (q_nei rfl rfl) (rfl)) <|
        sq rfl (q_pick_f rfl rfl) <|
        sq rfl (q_move rfl) <|
        sq_go 134 rfl rfl rfl (q_move rfl) <|
        sq_go 134 rfl rfl rfl (q_move rfl) <|
        sq_go 134 rfl rfl rfl (q_nf (q_nei rfl rfl) (rfl)) <|
        sq rfl (q_pick_f rfl rfl) <|
        sq_end) ?_
    clear hF hS; intro a w hF hS
    refine hK20 _ _ ?_
    clear hK20
    refine wp_if hF rfl (fun h => absurd h (by simp)) (fun _ => ?_)
    refine wp_skip ?_
    refine hK19 _ _ ?_
    clear hK19
    refine wp_seq_k ?_; intro K21 hK21
    refine regl ?_
    refine wpl_sq hF hS (sq rfl (q_move rfl) <|
        sq_end) ?_
    clear hF hS; intro a w hF hS
    refine wpl_ef hF hS rfl (ef_call fn34 rfl (fun w hS => wgds_ct _ _ (by first | with_reducible assumption | omega) w (Sl.mono (hS.le zin0) hb))) ?_
    clear hF hS; rintro _ _ _ a w ⟨_, _, rfl, rfl, ⟨v18, z19, rfl, hz20, rfl, rfl⟩⟩ hF hS
    replace hS : St _ [_, _, _, _, _] [] _ := hS
    refine wpl_sq hF hS (sq rfl (q_move rfl) <|
        sq rfl (q_extract rfl rfl) <|
        sq rfl (q_extract rfl rfl) <|
        sq rfl (q_extract rfl rfl) <|
        sq rfl (q_assign rfl) <|
        sq rfl (q_assign rfl) <|
        sq rfl (q_assign rfl) <|
        sq_end) ?_
    clear hF hS; intro a w hF hS
    refine wpList_nil ?_
    refine hK21 _ _ ?_
    clear hK21
    refine wp_seq_k ?_; intro K22 hK22
    refine regl ?_
    refine wpl_sq hF hS (sq rfl (q_move rfl) <|
        sq_end) ?_
    clear hF hS; intro a w hF hS
    refine wpl_ef hF hS rfl (ef_call fn35 rfl (fun w hS => rgds_ct _ _ (by first | with_reducible assumption | omega) w (Sl.mono (hS.le zin0) hb))) ?_
    clear hF hS; rintro _ _ _ a w ⟨_, _, rfl, rfl, ⟨v22, z23, rfl, hz24, rfl, rfl⟩⟩ hF hS
    replace hS : St _ [_, _, _, _, _, _] [] _ := hS
    refine wpl_sq hF hS (sq rfl (q_move rfl) <|
        sq rfl (q_extract rfl rfl) <|
        sq rfl (q_extract rfl rfl) <|
        sq rfl (q_extract rfl rfl) <|
        sq rfl (q_assign rfl) <|
        sq rfl (q_assign rfl) <|
        sq rfl (q_assign rfl) <|
        sq_end) ?_
    clear hF hS; intro a w hF hS
    refine wpList_nil ?_
    refine hK22 _ _ ?_
    clear hK22
    refine wp_seq_k ?_; intro K23 hK23
    refine reg hF hS (sq rfl (q_call fn12 rfl (fun w hS => sanity_ct w ) (fun _ _ _ h => h)) <|
        sq rfl (q_move rfl) <|
        sq_go 152 rfl rfl rfl (q_move rfl) <|
        sq_go 152 rfl rfl rfl (q_move rfl) <|
        sq_go 152 rfl rfl rfl (q_dt (q_call fn36 rfl (fun w hS => samed_ct _ _ _ _ w (Sl.mono (hS.le (.inr (by simp))) hz20) (Sl.mono (hS.le (.inr (by simp))) hz24)) (fun _ _ _ h => h)) (rfl)) <|
        sq rfl (q_pick_t rfl rfl) <|
        sq rfl (q_move rfl) <|
        sq_go 157 rfl rfl rfl (q_move rfl) <|
        sq_go 157 rfl rfl rfl (q_move rfl) <|
        sq_go 157 rfl rfl rfl (q_dt (q_eqi rfl rfl) (rfl)) <|
        sq rfl (q_pick_t rfl rfl) <|
        sq rfl (q_move rfl) <|
        sq_go 162 rfl rfl rfl (q_move rfl) <|
        sq_go 162 rfl rfl rfl (q_move rfl) <|
        sq_go 162 rfl rfl rfl (q_dt (q_eqi rfl rfl) (rfl)) <|
        sq rfl (q_pick_t rfl rfl) <|
        sq rfl (q_assign rfl) <|
        sq_end) ?_
    clear hF hS; intro a w hF hS
    refine hK23 _ _ ?_
    clear hK23
    refine wp_ret ?_
    exact fn_ret (rs := [.tmp 2]) rfl hF hS (vs := [_]) ⟨rfl, trivial⟩ (List.nil_sublist _) (List.nil_sublist _) (rfl)
end Go.Proofs.Ytcolgcdnpfpcdaa
