/- A text of a proof over this seat: walks over the program's functions and the plain laws that they need. -/
import Derived.Test.YtcolgcdnpfpcdaaVw6
import Derived.Test.YtcolgcdnpfpcdaaWi6
set_option linter.all false
namespace Go.Proofs.Ytcolgcdnpfpcdaa
open Go.Fw
theorem fn18 : FnOk Try.prog 18 := ⟨_, Try.func18, rfl, by kernel_rfl⟩
theorem fn20 : FnOk Try.prog 20 := ⟨_, Try.func20, rfl, by kernel_rfl⟩
theorem fn22 : FnOk Try.prog 22 := ⟨_, Try.func22, rfl, by kernel_rfl⟩
theorem fn28 : FnOk Try.prog 28 := ⟨_, Try.func28, rfl, by kernel_rfl⟩
theorem fn30 : FnOk Try.prog 30 := ⟨_, Try.func30, rfl, by kernel_rfl⟩
theorem fn31 : FnOk Try.prog 31 := ⟨_, Try.func31, rfl, by kernel_rfl⟩
theorem fn33 : FnOk Try.prog 33 := ⟨_, Try.func33, rfl, by kernel_rfl⟩
theorem fn34 : FnOk Try.prog 34 := ⟨_, Try.func34, rfl, by kernel_rfl⟩
theorem fn36 : FnOk Try.prog 36 := ⟨_, Try.func36, rfl, by kernel_rfl⟩

theorem s1 : Wi.getInt [130, 1, 0, 9] = (256, 3, 0) := by decide +kernel

theorem s2 : Wi.getInt [130, 1] = (0, 0, 3) := by decide +kernel

theorem s3 : Wi.getInt [129, 0] = (0, 0, 2) := by decide +kernel

theorem s4 : Wi.getBytes [129, 2, 97, 98, 7] = ([97, 98], 4, 0) := by decide +kernel

theorem s5 : Wi.getList Wi.getInt [129, 2, 129, 1, 127] = ([1, -1], 5, 0) := by decide +kernel

theorem s7 : Wi.getDigs (Wi.dgs [[1, 2, 0, 0, 0, 0, 0, 0, 0, 0, 0, 0, 0, 0, 0, 0]]) = ([[1, 2, 0, 0, 0, 0, 0, 0, 0, 0, 0, 0, 0, 0, 0, 0]], 18, 0) := by decide +kernel

theorem s7l : (Wi.dgs [[1, 2, 0, 0, 0, 0, 0, 0, 0, 0, 0, 0, 0, 0, 0, 0]]).length = 18 := by decide +kernel

theorem s8 : Wi.getList Wi.getBytes [129, 2, 128, 129, 1, 97, 5] = ([[], [97]], 6, 0) := by decide +kernel

theorem s9 : Wi.strs [[], [97]] = [129, 2, 128, 129, 1, 97] := by decide +kernel

theorem s10 : Wi.int (-257) = [125, 254, 255] := by decide +kernel

theorem s11 : Wi.bytes [97, 98] = [129, 2, 97, 98] := by decide +kernel

theorem s12 : Wi.ints [1, -1] = [129, 2, 129, 1, 127] := by decide +kernel

attribute [local irreducible] Wi.int Wi.bytes Wi.ints Wi.strs Wi.dgs Ls.encT Wi.getInt Wi.valBE Wi.vj Wi.cnt Wi.wcnt Wi.getBytes Wi.run Wi.getList Wi.getDigs Wi.dgL

set_option maxHeartbeats 2000000 in
theorem sanity_ct (w : World) : Ct Try.prog 12 [] w (fun r _ _ => r = .bool true) := by
  refine fn_enter Try.func12 rfl Try.ntmps12 (Nat.le_of_ble_eq_true rfl) fun a hF hS => ?_
  have hs7 := s7l
  have hil := Wi.int_len9 (-257)
  have hbl := Wi.bytes_len [97, 98]
  have hst : (Wi.strs [[], [97]]).length = 6 := by rw [s9]; rfl
  have hit : (Wi.ints [1, -1]).length = 5 := by rw [s12]; rfl
  have hbt : (Wi.bytes [97, 98]).length = 4 := by rw [s11]; rfl
  refine wp_seq_k ?_; intro K1 hK1
  refine reg hF hS (sq rfl (q_assign rfl) <|
      sq_end) ?_
  clear hF hS; intro a w hF hS
  refine hK1 _ _ ?_
  clear hK1
  refine wp_seq_k ?_; intro K2 hK2
  refine regl ?_
  refine wpl_ef hF hS rfl (ef_bsliceA ty28 ty5 rfl rfl (by first | ((repeat first | ((with_reducible refine oc_map ?_); intro _; rfl) | (with_reducible refine oc_app ?_ ?_) | ((with_reducible refine oc_cons ?_ ?_); rfl) | (with_reducible exact oc_nil) | ((with_reducible refine oc_rep ?_); rfl)); done) | (simp [Value.oneCell']; done) | (simp; decide)) (by decide) rfl rfl) ?_
  clear hF hS; rintro v1 _ _ a w ⟨rfl, rfl⟩ hF hS
  replace hS : St _ [] [_] _ := hS
  refine wpl_sq hF hS (sq rfl (q_call fn24 rfl (fun w hS => wgi_ct _ _ w (own_slV (f := vb) (xs := [130, 1, 0, 9]) (hS.own _ (List.mem_of_getElem? (i := 0) rfl)).1 (by decide) rfl (by decide))) (fun _ _ _ h => h)) <|
      sq rfl (q_move rfl) <|
      sq rfl (q_extract rfl rfl) <|
      sq rfl (q_extract rfl rfl) <|
      sq rfl (q_extract rfl rfl) <|
      sq rfl (q_assign rfl) <|
      sq rfl (q_assign rfl) <|
      sq rfl (q_assign rfl) <|
      sq_end) ?_
  clear hF hS; intro a w hF hS
  refine wpList_nil ?_
  refine hK2 _ _ ?_
  clear hK2
  refine wp_seq_k ?_; intro K3 hK3
  refine regl ?_
  refine wpl_ef hF hS rfl (ef_bsliceA ty28 ty5 rfl rfl (by first | ((repeat first | ((with_reducible refine oc_map ?_); intro _; rfl) | (with_reducible refine oc_app ?_ ?_) | ((with_reducible refine oc_cons ?_ ?_); rfl) | (with_reducible exact oc_nil) | ((with_reducible refine oc_rep ?_); rfl)); done) | (simp [Value.oneCell']; done) | (simp; decide)) (by decide) rfl rfl) ?_
  clear hF hS; rintro v3 _ _ a w ⟨rfl, rfl⟩ hF hS
  replace hS : St _ [] [_, _] _ := hS
  refine wpl_sq hF hS (sq rfl (q_call fn24 rfl (fun w hS => wgi_ct _ _ w (own_slV (f := vb) (xs := [130, 1]) (hS.own _ (List.mem_of_getElem? (i := 0) rfl)).1 (by decide) rfl (by decide))) (fun _ _ _ h => h)) <|
      sq rfl (q_move rfl) <|
      sq rfl (q_extract rfl rfl) <|
      sq rfl (q_extract rfl rfl) <|
      sq rfl (q_extract rfl rfl) <|
      sq rfl (q_assign rfl) <|
      sq rfl (q_assign rfl) <|
      sq rfl (q_assign rfl) <|
      sq_end) ?_
  clear hF hS; intro a w hF hS
  refine wpList_nil ?_
  refine hK3 _ _ ?_
  clear hK3
  refine wp_seq_k ?_; intro K4 hK4
  refine regl ?_
  refine wpl_ef hF hS rfl (ef_bsliceA ty28 ty5 rfl rfl (by first | ((repeat first | ((with_reducible refine oc_map ?_); intro _; rfl) | (with_reducible refine oc_app ?_ ?_) | ((with_reducible refine oc_cons ?_ ?_); rfl) | (with_reducible exact oc_nil) | ((with_reducible refine oc_rep ?_); rfl)); done) | (simp [Value.oneCell']; done) | (simp; decide)) (by decide) rfl rfl) ?_
  clear hF hS; rintro v5 _ _ a w ⟨rfl, rfl⟩ hF hS
  replace hS : St _ [] [_, _, _] _ := hS
  refine wpl_sq hF hS (sq rfl (q_call fn24 rfl (fun w hS => wgi_ct _ _ w (own_slV (f := vb) (xs := [129, 0]) (hS.own _ (List.mem_of_getElem? (i := 0) rfl)).1 (by decide) rfl (by decide))) (fun _ _ _ h => h)) <|
      sq rfl (q_move rfl) <|
      sq rfl (q_extract rfl rfl) <|
      sq rfl (q_extract rfl rfl) <|
      sq rfl (q_extract rfl rfl) <|
      sq rfl (q_assign rfl) <|
      sq rfl (q_assign rfl) <|
      sq rfl (q_assign rfl) <|
      sq_end) ?_
  clear hF hS; intro a w hF hS
  refine wpList_nil ?_
  refine hK4 _ _ ?_
  clear hK4
  refine wp_seq_k ?_; intro K5 hK5
  refine regl ?_
  refine wpl_ef hF hS rfl (ef_bsliceA ty28 ty5 rfl rfl (by first | ((repeat first | ((with_reducible refine oc_map ?_); intro _; rfl) | (with_reducible refine oc_app ?_ ?_) | ((with_reducible refine oc_cons ?_ ?_); rfl) | (with_reducible exact oc_nil) | ((with_reducible refine oc_rep ?_); rfl)); done) | (simp [Value.oneCell']; done) | (simp; decide)) (by decide) rfl rfl) ?_
  clear hF hS; rintro v7 _ _ a w ⟨rfl, rfl⟩ hF hS
  replace hS : St _ [] [_, _, _, _] _ := hS
  refine wpl_sq hF hS (sq rfl (q_call fn26 rfl (fun w hS => wgb_ct _ _ w (own_slV (f := vb) (xs := [129, 2, 97, 98, 7]) (hS.own _ (List.mem_of_getElem? (i := 0) rfl)).1 (by decide) rfl (by decide))) (fun _ _ _ h => h)) <|
      sq rfl (q_move rfl) <|
      sq rfl (q_extract rfl rfl) <|
      sq rfl (q_extract rfl rfl) <|
      sq rfl (q_extract rfl rfl) <|
      sq rfl (q_assign rfl) <|
      sq rfl (q_assign rfl) <|
      sq rfl (q_assign rfl) <|
      sq_end) ?_
  clear hF hS; intro a w hF hS
  refine wpList_nil ?_
  refine hK5 _ _ ?_
  clear hK5
  refine wp_seq_k ?_; intro K6 hK6
  refine regl ?_
  refine wpl_ef hF hS rfl (ef_bsliceA ty28 ty5 rfl rfl (by first | ((repeat first | ((with_reducible refine oc_map ?_); intro _; rfl) | (with_reducible refine oc_app ?_ ?_) | ((with_reducible refine oc_cons ?_ ?_); rfl) | (with_reducible exact oc_nil) | ((with_reducible refine oc_rep ?_); rfl)); done) | (simp [Value.oneCell']; done) | (simp; decide)) (by decide) rfl rfl) ?_
  clear hF hS; rintro v9 _ _ a w ⟨rfl, rfl⟩ hF hS
  replace hS : St _ [] [_, _, _, _, _] _ := hS
  refine wpl_ef hF hS rfl (ef_call fn28 rfl (fun w hS => wgis_ct _ _ (by decide) w (own_slV (f := vb) (xs := [129, 2, 129, 1, 127]) (hS.own _ (List.mem_of_getElem? (i := 0) rfl)).1 (by decide) rfl (by decide)))) ?_
  clear hF hS; rintro _ _ _ a w ⟨_, _, rfl, rfl, ⟨v12, z13, rfl, hz14, rfl, rfl⟩⟩ hF hS
  replace hS : St _ [_] [_, _, _, _, _] _ := hS
  refine wpl_sq hF hS (sq rfl (q_move rfl) <|
      sq rfl (q_extract rfl rfl) <|
      sq rfl (q_extract rfl rfl) <|
      sq rfl (q_extract rfl rfl) <|
      sq rfl (q_assign rfl) <|
      sq rfl (q_assign rfl) <|
      sq rfl (q_assign rfl) <|
      sq_end) ?_
  clear hF hS; intro a w hF hS
  refine wpList_nil ?_
  refine hK6 _ _ ?_
  clear hK6
  refine wp_seq_k ?_; intro K7 hK7
  refine regl ?_
  refine wpl_sq hF hS (sq rfl (q_build rfl (run_build_arr ty57 ty5 rfl)) <|
      sq_end) ?_
  clear hF hS; intro a w hF hS
  refine wpl_ef hF hS rfl (ef_allocA ty57) ?_
  clear hF hS; rintro _ _ _ a w ⟨b15, rfl, rfl, rfl⟩ hF hS
  rw [show List.replicate 16 (Value.int .u8 0) = (List.replicate 16 (0 : UInt8)).map vb from by rw [List.map_replicate]; rfl] at hS
  refine wpl_ef hF hS rfl (ef_storeW ty57 0 rfl rfl rfl rfl (by first | omega | (rw [List.length_map]; omega) | (simp; omega) | (simp [*]; done) | decide | (simp [*]; omega)) (by first | ((repeat first | ((with_reducible refine oc_map ?_); intro _; rfl) | (with_reducible refine oc_app ?_ ?_) | ((with_reducible refine oc_cons ?_ ?_); rfl) | (with_reducible exact oc_nil) | ((with_reducible refine oc_rep ?_); rfl)); done) | (simp [Value.oneCell']; done) | (simp; decide)) (by first | omega | (rw [List.length_map]; omega) | (simp; omega) | (simp [*]; done) | decide | (simp [*]; omega))) ?_
  clear hF hS; rintro _ _ _ a w ⟨rfl, rfl, rfl⟩ hF hS
  replace hS : St _ [_] [_, _, _, _, _, _] _ := hS
  refine wpList_nil ?_
  refine hK7 _ _ ?_
  clear hK7
  refine wp_seq_k ?_; intro K8 hK8
  refine regl ?_
  refine wpl_sq hF hS (sq rfl (q_ld_blkW ty57 0 rfl rfl (by first | omega | (rw [List.length_map]; omega) | (simp; omega) | (simp [*]; done) | decide | (simp [*]; omega)) rfl) <|
      sq_end) ?_
  clear hF hS; intro a w hF hS
  refine wpl_ef hF hS rfl (ef_bsliceW ty24 ty57 rfl (by first | omega | (rw [List.length_map]; omega) | (simp; omega) | (simp [*]; done) | decide | (simp [*]; omega)) (by decide) (by first | ((repeat first | ((with_reducible refine oc_map ?_); intro _; rfl) | (with_reducible refine oc_app ?_ ?_) | ((with_reducible refine oc_cons ?_ ?_); rfl) | (with_reducible exact oc_nil) | ((with_reducible refine oc_rep ?_); rfl)); done) | (simp [Value.oneCell']; done) | (simp; decide)) (by decide) (by decide)) ?_
  clear hF hS; rintro v16 _ _ a w ⟨rfl, rfl⟩ hF hS
  replace hS : St _ [_] [_, _, _, _, _, _, _] _ := hS
  refine wpl_ef hF hS rfl (ef_call fn22 rfl (fun w hS => wdigs_ct _ _ (by decide) w (own_slA (l := [[1, 2, 0, 0, 0, 0, 0, 0, 0, 0, 0, 0, 0, 0, 0, 0]]) (hS.own _ (List.mem_of_getElem? (i := 0) rfl)).1 (by decide) rfl (by decide)))) ?_
  clear hF hS; rintro v18 _ _ a w ⟨_, _, rfl, rfl, rfl, rfl⟩ hF hS
  replace hS : St _ [_] [_, _, _, _, _, _, _, _] _ := hS
  refine wpl_ef hF hS rfl (ef_call fn34 rfl (fun w hS => wgds_ct _ _ (by omega) w (own_slV (hS.own _ (List.mem_of_getElem? (i := 0) rfl)).1 (by simp) (by first | rfl | (simp; done) | (simp; omega) | omega) (by first | omega | (simp; omega))))) ?_
  clear hF hS; rintro _ _ _ a w ⟨_, _, rfl, rfl, ⟨v21, z22, rfl, hz23, rfl, rfl⟩⟩ hF hS
  replace hS : St _ [_, _] [_, _, _, _, _, _, _, _] _ := hS
  refine wpl_sq hF hS (sq rfl (q_move rfl) <|
      sq rfl (q_extract rfl rfl) <|
      sq rfl (q_extract rfl rfl) <|
      sq rfl (q_extract rfl rfl) <|
      sq rfl (q_assign rfl) <|
      sq rfl (q_assign rfl) <|
      sq rfl (q_assign rfl) <|
      sq_end) ?_
  clear hF hS; intro a w hF hS
  refine wpList_nil ?_
  refine hK8 _ _ ?_
  clear hK8
  refine wp_seq_k ?_; intro K9 hK9
  refine regl ?_
  refine wpl_ef hF hS rfl (ef_bsliceA ty28 ty5 rfl rfl (by first | ((repeat first | ((with_reducible refine oc_map ?_); intro _; rfl) | (with_reducible refine oc_app ?_ ?_) | ((with_reducible refine oc_cons ?_ ?_); rfl) | (with_reducible exact oc_nil) | ((with_reducible refine oc_rep ?_); rfl)); done) | (simp [Value.oneCell']; done) | (simp; decide)) (by decide) rfl rfl) ?_
  clear hF hS; rintro v24 _ _ a w ⟨rfl, rfl⟩ hF hS
  replace hS : St _ [_, _] [_, _, _, _, _, _, _, _, _] _ := hS
  refine wpl_ef hF hS rfl (ef_call fn31 rfl (fun w hS => wgss_ct _ _ (by decide) w (own_slV (f := vb) (xs := [129, 2, 128, 129, 1, 97, 5]) (hS.own _ (List.mem_of_getElem? (i := 0) rfl)).1 (by decide) rfl (by decide)))) ?_
  clear hF hS; rintro _ _ _ a w ⟨_, _, rfl, rfl, ⟨v27, z28, rfl, hz29, rfl, rfl⟩⟩ hF hS
  replace hS : St _ [_, _, _] [_, _, _, _, _, _, _, _, _] _ := hS
  refine wpl_sq hF hS (sq rfl (q_move rfl) <|
      sq rfl (q_extract rfl rfl) <|
      sq rfl (q_extract rfl rfl) <|
      sq rfl (q_extract rfl rfl) <|
      sq rfl (q_assign rfl) <|
      sq rfl (q_assign rfl) <|
      sq rfl (q_assign rfl) <|
      sq_end) ?_
  clear hF hS; intro a w hF hS
  refine wpList_nil ?_
  refine hK9 _ _ ?_
  clear hK9
  refine wp_seq_k ?_; intro K10 hK10
  refine regl ?_
  refine wpl_sq hF hS (sq rfl (q_move rfl) <|
      sq_end) ?_
  clear hF hS; intro a w hF hS
  refine wpl_ef hF hS rfl (ef_bsliceA ty23 ty9 rfl rfl (by first | ((repeat first | ((with_reducible refine oc_map ?_); intro _; rfl) | (with_reducible refine oc_app ?_ ?_) | ((with_reducible refine oc_cons ?_ ?_); rfl) | (with_reducible exact oc_nil) | ((with_reducible refine oc_rep ?_); rfl)); done) | (simp [Value.oneCell']; done) | (simp; decide)) (by decide) rfl rfl) ?_
  clear hF hS; rintro v30 _ _ a w ⟨rfl, rfl⟩ hF hS
  replace hS : St _ [_, _, _] [_, _, _, _, _, _, _, _, _, _] _ := hS
  refine wpl_sq hF hS (sq rfl (q_dt (q_call fn33 rfl (fun w hS => samet_ct _ _ _ _ w (Sl.mono (hS.le (.inr (by simp))) hz29) (own_slV (f := vs) (xs := [[], [97]]) (hS.own _ (List.mem_of_getElem? (i := 0) rfl)).1 (by decide) rfl (by decide))) (fun _ _ _ h => h)) (by rw [s8])) <|
      sq rfl (q_move rfl) <|
      sq_go 72 rfl rfl rfl (q_move rfl) <|
      sq_go 72 rfl rfl rfl (q_dt (q_eqi rfl rfl) (by rw [s8])) <|
      sq rfl (q_pick_t rfl rfl) <|
      sq rfl (q_move rfl) <|
      sq_go 76 rfl rfl rfl (q_move rfl) <|
      sq_go 76 rfl rfl rfl (q_dt (q_eqi rfl rfl) (by rw [s8])) <|
      sq rfl (q_pick_t rfl rfl) <|
      sq rfl (q_move rfl) <|
      sq_end) ?_
  clear hF hS; intro a w hF hS
  refine wpl_efg hF hS (wanted_go 80 rfl rfl) rfl (ef_bsliceA ty23 ty9 rfl rfl (by first | ((repeat first | ((with_reducible refine oc_map ?_); intro _; rfl) | (with_reducible refine oc_app ?_ ?_) | ((with_reducible refine oc_cons ?_ ?_); rfl) | (with_reducible exact oc_nil) | ((with_reducible refine oc_rep ?_); rfl)); done) | (simp [Value.oneCell']; done) | (simp; decide)) (by decide) rfl rfl) ?_
  clear hF hS; rintro v32 _ _ a w ⟨rfl, rfl⟩ hF hS
  replace hS : St _ [_, _, _] [_, _, _, _, _, _, _, _, _, _, _] _ := hS
  refine wpl_efg hF hS (wanted_go 80 rfl rfl) rfl (ef_call fn20 rfl (fun w hS => wstrs_ct _ _ (by decide) (by decide) w (own_slV (f := vs) (xs := [[], [97]]) (hS.own _ (List.mem_of_getElem? (i := 0) rfl)).1 (by decide) rfl (by decide)))) ?_
  clear hF hS; rintro v34 _ _ a w ⟨_, _, rfl, rfl, rfl, rfl⟩ hF hS
  replace hS : St _ [_, _, _] [_, _, _, _, _, _, _, _, _, _, _, _] _ := hS
  refine wpl_efg hF hS (wanted_go 80 rfl rfl) rfl (ef_bsliceA ty28 ty5 rfl rfl (by first | ((repeat first | ((with_reducible refine oc_map ?_); intro _; rfl) | (with_reducible refine oc_app ?_ ?_) | ((with_reducible refine oc_cons ?_ ?_); rfl) | (with_reducible exact oc_nil) | ((with_reducible refine oc_rep ?_); rfl)); done) | (simp [Value.oneCell']; done) | (simp; decide)) (by decide) rfl rfl) ?_
  clear hF hS; rintro v36 _ _ a w ⟨rfl, rfl⟩ hF hS
  replace hS : St _ [_, _, _] [_, _, _, _, _, _, _, _, _, _, _, _, _] _ := hS
  refine wpl_sq hF hS (sq_go 80 rfl rfl rfl (q_dt (q_call fn13 rfl (fun w hS => same_ct _ _ _ _ w (own_slV (hS.own _ (List.mem_of_getElem? (i := 1) rfl)).1 (by simp) (by first | rfl | (simp; done) | (simp; omega) | omega) (by first | omega | (simp; omega))) (own_slV (f := vb) (xs := [129, 2, 128, 129, 1, 97]) (hS.own _ (List.mem_of_getElem? (i := 0) rfl)).1 (by decide) rfl (by decide))) (fun _ _ _ h => h)) (by rw [s9])) <|
      sq rfl (q_pick_t rfl rfl) <|
      sq rfl (q_assign rfl) <|
      sq_end) ?_
  clear hF hS; intro a w hF hS
  refine wpList_nil ?_
  refine hK10 _ _ ?_
  clear hK10
  refine wp_seq_k ?_; intro K11 hK11
  refine regl ?_
  refine wpl_sq hF hS (sq rfl (q_move rfl) <|
      sq rfl (q_move rfl) <|
      sq_end) ?_
  clear hF hS; intro a w hF hS
  refine wpl_efg hF hS (wanted_go 87 rfl rfl) rfl (ef_call fn14 rfl (fun w hS => wint_ct _ w )) ?_
  clear hF hS; rintro v38 _ _ a w ⟨_, _, rfl, rfl, rfl, rfl⟩ hF hS
  replace hS : St _ [_, _, _] [_, _, _, _, _, _, _, _, _, _, _, _, _, _] _ := hS
  refine wpl_efg hF hS (wanted_go 87 rfl rfl) rfl (ef_bsliceA ty28 ty5 rfl rfl (by first | ((repeat first | ((with_reducible refine oc_map ?_); intro _; rfl) | (with_reducible refine oc_app ?_ ?_) | ((with_reducible refine oc_cons ?_ ?_); rfl) | (with_reducible exact oc_nil) | ((with_reducible refine oc_rep ?_); rfl)); done) | (simp [Value.oneCell']; done) | (simp; decide)) (by decide) rfl rfl) ?_
  clear hF hS; rintro v40 _ _ a w ⟨rfl, rfl⟩ hF hS
  replace hS : St _ [_, _, _] [_, _, _, _, _, _, _, _, _, _, _, _, _, _, _] _ := hS
  refine wpl_sq hF hS (sq_go 87 rfl rfl rfl (q_dt (q_call fn13 rfl (fun w hS => same_ct _ _ _ _ w (own_slV (hS.own _ (List.mem_of_getElem? (i := 1) rfl)).1 (by simp) (by first | rfl | (simp; done) | (simp; omega) | omega) (by first | omega | (simp; omega))) (own_slV (f := vb) (xs := [125, 254, 255]) (hS.own _ (List.mem_of_getElem? (i := 0) rfl)).1 (by decide) rfl (by decide))) (fun _ _ _ h => h)) (by rw [s10])) <|
      sq rfl (q_pick_t rfl rfl) <|
      sq rfl (q_move rfl) <|
      sq_go 92 rfl rfl rfl (q_move rfl) <|
      sq_go 92 rfl rfl rfl (q_dt (q_eqi rfl rfl) (by rw [s1])) <|
      sq rfl (q_pick_t rfl rfl) <|
      sq rfl (q_move rfl) <|
      sq_go 96 rfl rfl rfl (q_move rfl) <|
      sq_go 96 rfl rfl rfl (q_dt (q_eqi rfl rfl) (by rw [s1])) <|
      sq rfl (q_pick_t rfl rfl) <|
      sq rfl (q_move rfl) <|
      sq_go 100 rfl rfl rfl (q_move rfl) <|
      sq_go 100 rfl rfl rfl (q_dt (q_eqi rfl rfl) (by rw [s1])) <|
      sq rfl (q_pick_t rfl rfl) <|
      sq rfl (q_move rfl) <|
      sq_go 104 rfl rfl rfl (q_move rfl) <|
      sq_go 104 rfl rfl rfl (q_dt (q_eqi rfl rfl) (by rw [s2])) <|
      sq rfl (q_pick_t rfl rfl) <|
      sq rfl (q_move rfl) <|
      sq_go 108 rfl rfl rfl (q_move rfl) <|
      sq_go 108 rfl rfl rfl (q_dt (q_eqi rfl rfl) (by rw [s3])) <|
      sq rfl (q_pick_t rfl rfl) <|
      sq rfl (q_move rfl) <|
      sq_go 112 rfl rfl rfl (q_move rfl) <|
      sq_go 112 rfl rfl rfl (q_eqs_t (q := [97, 98]) rfl rfl (by rw [s4])) <|
      sq rfl (q_pick_t rfl rfl) <|
      sq rfl (q_move rfl) <|
      sq_go 116 rfl rfl rfl (q_move rfl) <|
      sq_go 116 rfl rfl rfl (q_dt (q_eqi rfl rfl) (by rw [s4])) <|
      sq rfl (q_pick_t rfl rfl) <|
      sq rfl (q_move rfl) <|
      sq_go 120 rfl rfl rfl (q_move rfl) <|
      sq_go 120 rfl rfl rfl (q_dt (q_eqi rfl rfl) (by rw [s4])) <|
      sq rfl (q_pick_t rfl rfl) <|
      sq rfl (q_move rfl) <|
      sq_go 124 rfl rfl rfl (q_move rfl) <|
      sq_end) ?_
  clear hF hS; intro a w hF hS
  refine wpl_efg hF hS (wanted_go 124 rfl rfl) rfl (ef_bsliceA ty22 ty3 rfl rfl (by first | ((repeat first | ((with_reducible refine oc_map ?_); intro _; rfl) | (with_reducible refine oc_app ?_ ?_) | ((with_reducible refine oc_cons ?_ ?_); rfl) | (with_reducible exact oc_nil) | ((with_reducible refine oc_rep ?_); rfl)); done) | (simp [Value.oneCell']; done) | (simp; decide)) (by decide) rfl rfl) ?_
  clear hF hS; rintro v42 _ _ a w ⟨rfl, rfl⟩ hF hS
  replace hS : St _ [_, _, _] [_, _, _, _, _, _, _, _, _, _, _, _, _, _, _, _] _ := hS
  refine wpl_sq hF hS (sq_go 124 rfl rfl rfl (q_dt (q_call fn30 rfl (fun w hS => samei_ct _ _ _ _ w (Sl.mono (hS.le (.inr (by simp))) hz14) (own_slV (f := vi) (xs := [1, -1]) (hS.own _ (List.mem_of_getElem? (i := 0) rfl)).1 (by decide) rfl (by decide))) (fun _ _ _ h => h)) (by rw [s5])) <|
      sq rfl (q_pick_t rfl rfl) <|
      sq rfl (q_move rfl) <|
      sq_go 129 rfl rfl rfl (q_move rfl) <|
      sq_go 129 rfl rfl rfl (q_dt (q_eqi rfl rfl) (by rw [s5])) <|
      sq rfl (q_pick_t rfl rfl) <|
      sq rfl (q_move rfl) <|
      sq_go 133 rfl rfl rfl (q_move rfl) <|
      sq_go 133 rfl rfl rfl (q_dt (q_eqi rfl rfl) (by rw [s5])) <|
      sq rfl (q_pick_t rfl rfl) <|
      sq rfl (q_move rfl) <|
      sq_end) ?_
  clear hF hS; intro a w hF hS
  refine wpl_efg hF hS (wanted_go 137 rfl rfl) rfl (ef_call fn16 rfl (fun w hS => wbytes_ct _ (by decide) w )) ?_
  clear hF hS; rintro v44 _ _ a w ⟨_, _, rfl, rfl, rfl, rfl⟩ hF hS
  replace hS : St _ [_, _, _] [_, _, _, _, _, _, _, _, _, _, _, _, _, _, _, _, _] _ := hS
  refine wpl_efg hF hS (wanted_go 137 rfl rfl) rfl (ef_bsliceA ty28 ty5 rfl rfl (by first | ((repeat first | ((with_reducible refine oc_map ?_); intro _; rfl) | (with_reducible refine oc_app ?_ ?_) | ((with_reducible refine oc_cons ?_ ?_); rfl) | (with_reducible exact oc_nil) | ((with_reducible refine oc_rep ?_); rfl)); done) | (simp [Value.oneCell']; done) | (simp; decide)) (by decide) rfl rfl) ?_
  clear hF hS; rintro v46 _ _ a w ⟨rfl, rfl⟩ hF hS
  replace hS : St _ [_, _, _] [_, _, _, _, _, _, _, _, _, _, _, _, _, _, _, _, _, _] _ := hS
  refine wpl_sq hF hS (sq_go 137 rfl rfl rfl (q_dt (q_call fn13 rfl (fun w hS => same_ct _ _ _ _ w (own_slV (hS.own _ (List.mem_of_getElem? (i := 1) rfl)).1 (by simp) (by first | rfl | (simp; done) | (simp; omega) | omega) (by first | omega | (simp; omega))) (own_slV (f := vb) (xs := [129, 2, 97, 98]) (hS.own _ (List.mem_of_getElem? (i := 0) rfl)).1 (by decide) rfl (by decide))) (fun _ _ _ h => h)) (by rw [s11])) <|
      sq rfl (q_pick_t rfl rfl) <|
      sq rfl (q_move rfl) <|
      sq_end) ?_
  clear hF hS; intro a w hF hS
  refine wpl_efg hF hS (wanted_go 142 rfl rfl) rfl (ef_bsliceA ty22 ty3 rfl rfl (by first | ((repeat first | ((with_reducible refine oc_map ?_); intro _; rfl) | (with_reducible refine oc_app ?_ ?_) | ((with_reducible refine oc_cons ?_ ?_); rfl) | (with_reducible exact oc_nil) | ((with_reducible refine oc_rep ?_); rfl)); done) | (simp [Value.oneCell']; done) | (simp; decide)) (by decide) rfl rfl) ?_
  clear hF hS; rintro v48 _ _ a w ⟨rfl, rfl⟩ hF hS
  replace hS : St _ [_, _, _] [_, _, _, _, _, _, _, _, _, _, _, _, _, _, _, _, _, _, _] _ := hS
  refine wpl_efg hF hS (wanted_go 142 rfl rfl) rfl (ef_call fn18 rfl (fun w hS => wints_ct _ _ (by decide) w (own_slV (f := vi) (xs := [1, -1]) (hS.own _ (List.mem_of_getElem? (i := 0) rfl)).1 (by decide) rfl (by decide)))) ?_
  clear hF hS; rintro v50 _ _ a w ⟨_, _, rfl, rfl, rfl, rfl⟩ hF hS
  replace hS : St _ [_, _, _] [_, _, _, _, _, _, _, _, _, _, _, _, _, _, _, _, _, _, _, _] _ := hS
  refine wpl_efg hF hS (wanted_go 142 rfl rfl) rfl (ef_bsliceA ty28 ty5 rfl rfl (by first | ((repeat first | ((with_reducible refine oc_map ?_); intro _; rfl) | (with_reducible refine oc_app ?_ ?_) | ((with_reducible refine oc_cons ?_ ?_); rfl) | (with_reducible exact oc_nil) | ((with_reducible refine oc_rep ?_); rfl)); done) | (simp [Value.oneCell']; done) | (simp; decide)) (by decide) rfl rfl) ?_
  clear hF hS; rintro v52 _ _ a w ⟨rfl, rfl⟩ hF hS
  replace hS : St _ [_, _, _] [_, _, _, _, _, _, _, _, _, _, _, _, _, _, _, _, _, _, _, _, _] _ := hS
  refine wpl_sq hF hS (sq_go 142 rfl rfl rfl (q_dt (q_call fn13 rfl (fun w hS => same_ct _ _ _ _ w (own_slV (hS.own _ (List.mem_of_getElem? (i := 1) rfl)).1 (by simp) (by first | rfl | (simp; done) | (simp; omega) | omega) (by first | omega | (simp; omega))) (own_slV (f := vb) (xs := [129, 2, 129, 1, 127]) (hS.own _ (List.mem_of_getElem? (i := 0) rfl)).1 (by decide) rfl (by decide))) (fun _ _ _ h => h)) (by rw [s12])) <|
      sq rfl (q_pick_t rfl rfl) <|
      sq rfl (q_move rfl) <|
      sq_go 148 rfl rfl rfl (q_move rfl) <|
      sq_go 148 rfl rfl rfl (q_ld_blkW ty57 15 rfl rfl (by first | omega | (rw [List.length_map]; omega) | (simp; omega) | (simp [*]; done) | decide | (simp [*]; omega)) rfl) <|
      sq_end) ?_
  clear hF hS; intro a w hF hS
  refine wpl_efg hF hS (wanted_go 148 rfl rfl) rfl (ef_bsliceW ty24 ty57 rfl (by first | omega | (rw [List.length_map]; omega) | (simp; omega) | (simp [*]; done) | decide | (simp [*]; omega)) (by decide) (by first | ((repeat first | ((with_reducible refine oc_map ?_); intro _; rfl) | (with_reducible refine oc_app ?_ ?_) | ((with_reducible refine oc_cons ?_ ?_); rfl) | (with_reducible exact oc_nil) | ((with_reducible refine oc_rep ?_); rfl)); done) | (simp [Value.oneCell']; done) | (simp; decide)) (by decide) (by decide)) ?_
  clear hF hS; rintro v54 _ _ a w ⟨rfl, rfl⟩ hF hS
  replace hS : St _ [_, _, _] [_, _, _, _, _, _, _, _, _, _, _, _, _, _, _, _, _, _, _, _, _, _] _ := hS
  refine wpl_sq hF hS (sq_go 148 rfl rfl rfl (q_dt (q_call fn36 rfl (fun w hS => samed_ct _ _ _ _ w (Sl.mono (hS.le (.inr (by simp))) hz23) (own_slA (l := [[1, 2, 0, 0, 0, 0, 0, 0, 0, 0, 0, 0, 0, 0, 0, 0]]) (hS.own _ (List.mem_of_getElem? (i := 0) rfl)).1 (by decide) rfl (by decide))) (fun _ _ _ h => h)) (by rw [s7])) <|
      sq rfl (q_pick_t rfl rfl) <|
      sq rfl (q_move rfl) <|
      sq_go 154 rfl rfl rfl (q_move rfl) <|
      sq_go 154 rfl rfl rfl (q_dt (q_eqi rfl rfl) (by rw [s7])) <|
      sq rfl (q_pick_t rfl rfl) <|
      sq rfl (q_move rfl) <|
      sq_go 158 rfl rfl rfl (q_move rfl) <|
      sq_go 158 rfl rfl rfl (q_dt (q_eqi rfl rfl) (by rw [s7])) <|
      sq rfl (q_pick_t rfl rfl) <|
      sq rfl (q_assign rfl) <|
      sq_end) ?_
  clear hF hS; intro a w hF hS
  refine wpList_nil ?_
  refine hK11 _ _ ?_
  clear hK11
  refine wp_ret ?_
  exact fn_ret (rs := [.tmp 0]) rfl hF hS (vs := [_]) ⟨rfl, trivial⟩ (List.nil_sublist _) (List.nil_sublist _) (rfl)
end Go.Proofs.Ytcolgcdnpfpcdaa
