/- A text of a proof over this seat: walks over the program's functions and the plain laws that they need. -/
import Derived.Test.YtefjpigmgmbghaaHu9
import Derived.Test.YtefjpigmgmbghaaHpA
import Derived.Test.YtefjpigmgmbghaaFwD
import Derived.Test.YtefjpigmgmbghaaFwC
import Derived.Test.YtefjpigmgmbghaaFwB
set_option linter.all false
namespace Go.Proofs.Ytefjpigmgmbghaa
open Go.Fw
theorem ty83 : Tf Try.prog 83 (.struct #[⟨ "By", 3, 0, false, "", "", 0⟩, ⟨ "Seq", 3, 1, false, "", "", 8⟩]) 2 16 (.agg ([Value.int .i64 0, Value.int .i64 0]).toArray) := ⟨Try.underlying83, by kernel_rfl⟩
theorem fn30 : FnOk Try.prog 30 := ⟨_, Try.func30, rfl, by kernel_rfl⟩
theorem fn31 : FnOk Try.prog 31 := ⟨_, Try.func31, rfl, by kernel_rfl⟩
theorem fn34 : FnOk Try.prog 34 := ⟨_, Try.func34, rfl, by kernel_rfl⟩
theorem fn36 : FnOk Try.prog 36 := ⟨_, Try.func36, rfl, by kernel_rfl⟩
theorem fn41 : FnOk Try.prog 41 := ⟨_, Try.func41, rfl, by kernel_rfl⟩

set_option maxRecDepth 4000 in
set_option maxHeartbeats 2000000 in
theorem lives_ct (w : World) : Ct Try.prog 25 [] w (fun r _ _ => r = .bool true) := by
 refine fn_enter Try.func25 rfl Try.ntmps25 (Nat.le_of_ble_eq_true rfl) fun a hF hS => ?_
 refine wp_seq_k ?_; intro K1 hK1
 refine reg hF hS (sq rfl (q_assign rfl) <|
   sq_end) ?_
 clear hF hS; intro a w hF hS
 refine hK1 _ _ ?_
 clear hK1
 refine wp_seq_k ?_; intro K2 hK2
 refine regl ?_
 refine wpl_sq hF hS (sq rfl (q_buildP (places := [(0, 1), (1, 1)]) (cells := [.int .i64 0, .int .i64 0]) ty83 kQ rfl (by rfl)) <|
   sq rfl (q_buildP (places := [(0, 1), (1, 1)]) (cells := [.int .i64 0, _]) ty83 kQ rfl (by rfl)) <|
   sq rfl (q_buildP (places := [(0, 1), (1, 1)]) (cells := [_, .int .i64 0]) ty83 kQ rfl (by rfl)) <|
   sq_end) ?_
 clear hF hS; intro a w hF hS
 refine wpl_ef hF hS rfl (ef_bsliceC ty23 ty83 [[_, _], [_, _], [_, _]] rfl rfl (by simp) (oc2_cons (oc_cons rfl (oc_cons rfl oc_nil)) (oc2_cons (oc_cons rfl (oc_cons rfl oc_nil)) (oc2_cons (oc_cons rfl (oc_cons rfl oc_nil)) oc2_nil))) (by decide) rfl rfl) ?_
 clear hF hS; rintro v1 _ _ a w ⟨rfl, rfl⟩ hF hS
 replace hS : St _ [] [_] _ := hS
 refine wpl_ef hF hS rfl (ef_bsliceA ty22 ty3 rfl rfl oQ (by decide) rfl rfl) ?_
 clear hF hS; rintro v3 _ _ a w ⟨rfl, rfl⟩ hF hS
 replace hS : St _ [] [_, _] _ := hS
 refine wpl_ef hF hS rfl (ef_bsliceA ty24 ty4 rfl rfl oQ (by decide) rfl rfl) ?_
 clear hF hS; rintro v5 _ _ a w ⟨rfl, rfl⟩ hF hS
 replace hS : St _ [] [_, _, _] _ := hS
 refine wpl_sq hF hS (sq rfl (q_buildS1 ty42 3 kQ rfl rfl (oc_cons (row_one (hS.own _ (List.mem_of_getElem? (i := 2) rfl)).1) (oc_cons (row_one (hS.own _ (List.mem_of_getElem? (i := 1) rfl)).1) (oc_cons (row_one (hS.own _ (List.mem_of_getElem? (i := 0) rfl)).1) oc_nil))) rfl rfl) <|
   sq_end) ?_
 clear hF hS; intro a w hF hS
 refine wpl_ef hF hS rfl (ef_allocA ty42) ?_
 clear hF hS; rintro _ _ _ a w ⟨b7, rfl, rfl, rfl⟩ hF hS
 refine wpl_ef hF hS rfl (ef_storeW ty42 0 rfl rfl rfl rfl bQ (oc_cons (row_one (hS.own _ (List.mem_of_getElem? (i := 3) rfl)).1) (oc_cons (row_one (hS.own _ (List.mem_of_getElem? (i := 2) rfl)).1) (oc_cons (row_one (hS.own _ (List.mem_of_getElem? (i := 1) rfl)).1) oc_nil))) bQ) ?_
 clear hF hS; rintro _ _ _ a w ⟨rfl, rfl, rfl⟩ hF hS
 replace hS : St _ [] [_, _, _, _] _ := hS
 refine wpList_nil ?_
 replace hS := hS.perm (.cons _ (.swap _ _ _))
 replace hS := hS.perm (.swap _ _ _)
 obtain ⟨zS, hzS, hS⟩ := St.freezeV (h0 := fun _ => rfl) (f := vi) (p := fun x => -9223372036854775808 ≤ x ∧ x ≤ 9223372036854775807) (xs := Hu.lvX) hS (by first | rfl | decide | exact (Gp.lvS_len _).symm | exact (Gp.lvB_len _).symm | exact (Gp.lvM_len _).symm) (by decide) (Hu.lvX_rng)
 replace hS : St _ [_] [_, _, _] _ := hS
 replace hS := hS.perm (.swap _ _ _)
 obtain ⟨zB, hzB, hS⟩ := St.freezeV (h0 := fun _ => rfl) (f := vt) (p := fun _ => True) (xs := Hu.lvB) hS (by first | rfl | decide | exact (Gp.lvS_len _).symm | exact (Gp.lvB_len _).symm | exact (Gp.lvM_len _).symm) (by decide) (fun _ _ => trivial)
 replace hS : St _ [_, _] [_, _] _ := hS
 refine hK2 _ _ ?_
 clear hK2
 refine wp_seq_k ?_; intro K3 hK3
 refine regl ?_
 refine wpl_sq hF hS (sq rfl (q_build rfl (run_build_arr ty66 ty5 (cells := (Hu.dg 1).map vb) rfl)) <|
   sq rfl (q_build rfl (run_build_arr ty66 ty5 (cells := (Hu.dg 2).map vb) rfl)) <|
   sq rfl (q_build rfl (run_build_arr ty66 ty5 (cells := (Hu.dg 3).map vb) rfl)) <|
   sq rfl (q_build rfl (run_build_arr ty66 ty5 (cells := (Hu.dg 4).map vb) rfl)) <|
   sq rfl (q_build rfl (run_build_arr ty66 ty5 (cells := (Hu.dg 5).map vb) rfl)) <|
   sq rfl (q_build rfl (run_build_arr ty66 ty5 (cells := (Hu.dg 6).map vb) rfl)) <|
   sq_end) ?_
 clear hF hS; intro a w hF hS
 refine wpl_ef hF hS rfl (ef_bsliceC ty28 ty66 (Hu.lvK.map fun x => x.map vb) rfl rfl (Hu.lv16 (by decide)) Hu.lv1c (by decide) rfl rfl) ?_
 clear hF hS; rintro v8 _ _ a w ⟨rfl, rfl⟩ hF hS
 replace hS : St _ [_, _] [_, _, _] _ := hS
 refine wpl_sq hF hS (sq rfl (q_assign rfl) <|
   sq_end) ?_
 clear hF hS; intro a w hF hS
 refine wpList_nil ?_
 obtain ⟨zK, hzK, hS⟩ := St.freezeA (m := 16) (l := Hu.lvK) (hS.rowEq rfl (by rw [List.map_flatten])) rfl (by decide) (by decide)
 replace hS : St _ [_, _, _] [_, _] _ := hS
 refine hK3 _ _ ?_
 clear hK3
 refine wp_seq_k ?_; intro K4 hK4
 refine regl ?_
 refine wpl_sq hF hS (sq rfl (q_ld_blkW ty42 0 rfl rfl bQ rfl) <|
   sq rfl (q_move rfl) <|
   sq_end) ?_
 clear hF hS; intro a w hF hS
 refine wpl_ef hF hS rfl (ef_call fn16 rfl (fun w hS => new_ct _ _ _ _ _ _ _ (by decide) w (row_one (hS.own _ (List.mem_of_getElem? (i := 1) rfl)).1) (Sl.mono (hS.le (.inr (by simp))) hzS) (Sl.mono (hS.le (.inr (by simp))) hzB) (Sl.mono (hS.le (.inr (by simp))) hzK))) ?_
 clear hF hS; rintro _ _ _ a w ⟨_, _, rfl, rfl, ⟨kN, mN, zN, rfl, hkN, hmN, rfl, rfl⟩⟩ hF hS
 replace hS : St _ [_, _, _, _] [_, _] _ := hS
 refine wpl_sq hF hS (sq rfl (q_move rfl) <|
   sq rfl (q_extract rfl rfl) <|
   sq rfl (q_extract rfl rfl) <|
   sq_end) ?_
 clear hF hS; intro a w hF hS
 refine wpl_ef hF hS rfl (ef_allocA ty38) ?_
 clear hF hS; rintro _ _ _ a w ⟨b11, rfl, rfl, rfl⟩ hF hS
 refine wpl_ef hF hS rfl (ef_storeW ty38 0 rfl rfl rfl rfl bQ (oc_cons (sl_one' hkN) (oc_cons (sl_one' hmN) oc_nil)) bQ) ?_
 clear hF hS; rintro _ _ _ a w ⟨rfl, rfl, rfl⟩ hF hS
 replace hS : St _ [_, _, _, _] [_, _, _] _ := hS
 refine wpl_sq hF hS (sq rfl (q_assign rfl) <|
   sq_end) ?_
 clear hF hS; intro a w hF hS
 refine wpList_nil ?_
 rw [Hu.lv_new] at hkN hmN hF
 refine hK4 _ _ ?_
 clear hK4
 refine wp_seq_k ?_; intro K5 hK5
 refine reg hF hS (sq rfl (q_ld_blkW ty42 1 rfl rfl bQ rfl) <|
   sq rfl (q_ld_blkW ty38 0 rfl rfl bQ rfl) <|
   sq rfl (q_call fn28 rfl (fun w hS => next_ct _ _ _ _ _ _ _ _ _ (by decide) w (row_one (hS.own _ (List.mem_of_getElem? (i := 2) rfl)).1) (Sl.mono (hS.le (.inr (by simp))) hzS) (Sl.mono (hS.le (.inr (by simp))) hzB) (Sl.mono (hS.le (.inr (by simp))) hkN) (Sl.mono (hS.le (.inr (by simp))) hmN)) (fun _ _ _ h => h)) <|
   sq rfl (q_move rfl) <|
   sq rfl (q_extract rfl rfl) <|
   sq rfl (q_extract rfl rfl) <|
   sq rfl (q_extract rfl rfl) <|
   sq rfl (q_assign rfl) <|
   sq rfl (q_assign rfl) <|
   sq rfl (q_assign rfl) <|
   sq_end) ?_
 clear hF hS; intro a w hF hS
 rw [Hu.lv_nx.1, Hu.lv_nx.2.1, Hu.lv_nx.2.2] at hF
 refine hK5 _ _ ?_
 clear hK5
 refine wp_seq_k ?_; intro K6 hK6
 refine regl ?_
 refine wpl_sq hF hS (sq rfl (q_ld_blkW ty42 1 rfl rfl bQ rfl) <|
   sq rfl (q_ld_blkW ty38 0 rfl rfl bQ rfl) <|
   sq_end) ?_
 clear hF hS; intro a w hF hS
 refine wpl_ef hF hS rfl (ef_call fn26 rfl (fun w hS => open_ct _ _ _ _ _ _ _ _ _ (by decide) w (row_one (hS.own _ (List.mem_of_getElem? (i := 2) rfl)).1) (Sl.mono (hS.le (.inr (by simp))) hzS) (Sl.mono (hS.le (.inr (by simp))) hzB) (Sl.mono (hS.le (.inr (by simp))) hkN) (Sl.mono (hS.le (.inr (by simp))) hmN))) ?_
 clear hF hS; rintro _ _ _ a w ⟨_, _, rfl, rfl, ⟨vO, zO, hzO, rfl, rfl, rfl⟩⟩ hF hS
 replace hS : St _ [_, _, _, _, _] [_, _, _] _ := hS
 refine wpl_sq hF hS (sq rfl (q_move rfl) <|
   sq rfl (q_extract rfl rfl) <|
   sq rfl (q_extract rfl rfl) <|
   sq rfl (q_assign rfl) <|
   sq rfl (q_assign rfl) <|
   sq_end) ?_
 clear hF hS; intro a w hF hS
 refine wpList_nil ?_
 rw [Hu.lv_nx.2.2] at hF
 refine hK6 _ _ ?_
 clear hK6
 refine wp_seq_k ?_; intro K7 hK7
 refine regl ?_
 refine wpl_sq hF hS (sq rfl (q_ld_blkW ty42 1 rfl rfl bQ rfl) <|
   sq rfl (q_move rfl) <|
   sq_end) ?_
 clear hF hS; intro a w hF hS
 refine wpl_ef hF hS rfl (ef_bsliceA ty24 ty4 rfl rfl oQ (by decide) rfl rfl) ?_
 clear hF hS; rintro v13 _ _ a w ⟨rfl, rfl⟩ hF hS
 replace hS : St _ [_, _, _, _, _] [_, _, _, _] _ := hS
 refine wpl_ef hF hS rfl (ef_call fn36 rfl (fun w hS => run_ct _ _ _ _ _ _ _ _ Hu.lvD (by decide) w (row_one (hS.own _ (List.mem_of_getElem? (i := 3) rfl)).1) (Sl.mono (hS.le (.inr (by simp))) hzS) (Sl.mono (hS.le (.inr (by simp))) hzB) (Sl.mono (hS.le (.inr (by simp))) hzK) (own_slV (f := vt) (xs := [false, false, false, true, false, true]) (hS.own _ (List.mem_of_getElem? (i := 0) rfl)).1 (by decide) rfl (by decide)))) ?_
 clear hF hS; rintro _ _ _ a w ⟨_, _, rfl, rfl, ⟨aR, fR, zR, rfl, haR, hfR, rfl, rfl⟩⟩ hF hS
 replace hS : St _ [_, _, _, _, _, _] [_, _, _, _] _ := hS
 refine wpl_sq hF hS (sq rfl (q_move rfl) <|
   sq rfl (q_extract rfl rfl) <|
   sq rfl (q_extract rfl rfl) <|
   sq rfl (q_extract rfl rfl) <|
   sq rfl (q_assign rfl) <|
   sq rfl (q_assign rfl) <|
   sq rfl (q_assign rfl) <|
   sq_end) ?_
 clear hF hS; intro a w hF hS
 refine wpList_nil ?_
 rw [Hu.lv_r1.1] at haR
 rw [Hu.lv_r1.2.1] at hfR
 rw [Hu.lv_r1.2.2] at hF
 refine hK7 _ _ ?_
 clear hK7
 refine wp_seq_k ?_; intro K8 hK8
 refine wp_seq_k ?_; intro K9 hK9
 refine regl ?_
 refine wpl_sq hF hS (sq rfl (q_move rfl) <|
   sq rfl (q_nf (q_nei rfl rfl) (rfl)) <|
   sq rfl (q_move rfl) <|
   sq_go 73 rfl rfl rfl (q_move rfl) <|
   sq_go 73 rfl rfl rfl (q_nf (q_nei rfl rfl) (rfl)) <|
   sq rfl (q_pick_f rfl rfl) <|
   sq rfl (q_move rfl) <|
   sq_go 77 rfl rfl rfl (q_move rfl) <|
   sq_go 77 rfl rfl rfl (q_nf (q_nei rfl rfl) (rfl)) <|
   sq rfl (q_pick_f rfl rfl) <|
   sq rfl (q_move rfl) <|
   sq_go 81 rfl rfl rfl (q_move rfl) <|
   sq_go 81 rfl rfl rfl (q_nf (q_nei rfl rfl) (rfl)) <|
   sq rfl (q_pick_f rfl rfl) <|
   sq rfl (q_move rfl) <|
   sq_go 85 rfl rfl rfl (q_move rfl) <|
   sq_go 85 rfl rfl rfl (q_bf (q_not rfl) (rfl)) <|
   sq rfl (q_pick_f rfl rfl) <|
   sq rfl (q_move rfl) <|
   sq_go 89 rfl rfl rfl (q_move rfl) <|
   sq_go 89 rfl rfl rfl (q_nf (q_nei rfl rfl) (rfl)) <|
   sq rfl (q_pick_f rfl rfl) <|
   sq rfl (q_move rfl) <|
   sq_go 93 rfl rfl rfl (q_move rfl) <|
   sq_go 93 rfl rfl rfl (q_len_sl ty22 hzO rfl) <|
   sq_go 93 rfl rfl rfl (q_nf (q_nei rfl rfl) (by rw [Hu.lv_op]; rfl)) <|
   sq rfl (q_pick_f rfl rfl) <|
   sq rfl (q_move rfl) <|
   sq_go 98 rfl rfl rfl (q_move rfl) <|
   sq_end) ?_
 clear hF hS; intro a w hF hS
 refine wpl_efg hF hS (wanted_go 98 rfl rfl) rfl (ef_bsliceA ty22 ty3 rfl rfl oQ (by decide) rfl rfl) ?_
 clear hF hS; rintro v16 _ _ a w ⟨rfl, rfl⟩ hF hS
 replace hS : St _ [_, _, _, _, _, _] [_, _, _, _, _] _ := hS
 refine wpl_sq hF hS (sq_go 98 rfl rfl rfl (q_call fn31 rfl (fun w hS => samei_ct _ _ _ _ w (Sl.mono (hS.le (.inr (by simp))) haR) (own_slV (f := vi) (xs := [0, 1, 4, 3, 5]) (hS.own _ (List.mem_of_getElem? (i := 0) rfl)).1 (by decide) rfl (by decide))) (fun _ _ _ h => h)) <|
   sq_go 98 rfl rfl rfl (q_nf (q_not rfl) (rfl)) <|
   sq rfl (q_pick_f rfl rfl) <|
   sq rfl (q_move rfl) <|
   sq_go 104 rfl rfl rfl (q_move rfl) <|
   sq_end) ?_
 clear hF hS; intro a w hF hS
 refine wpl_efg hF hS (wanted_go 104 rfl rfl) rfl (ef_bsliceA ty22 ty3 rfl rfl oQ (by decide) rfl rfl) ?_
 clear hF hS; rintro v18 _ _ a w ⟨rfl, rfl⟩ hF hS
 replace hS : St _ [_, _, _, _, _, _] [_, _, _, _, _, _] _ := hS
 refine wpl_sq hF hS (sq_go 104 rfl rfl rfl (q_call fn31 rfl (fun w hS => samei_ct _ _ _ _ w (Sl.mono (hS.le (.inr (by simp))) hfR) (own_slV (f := vi) (xs := [3]) (hS.own _ (List.mem_of_getElem? (i := 0) rfl)).1 (by decide) rfl (by decide))) (fun _ _ _ h => h)) <|
   sq_go 104 rfl rfl rfl (q_nf (q_not rfl) (rfl)) <|
   sq rfl (q_pick_f rfl rfl) <|
   sq_end) ?_
 clear hF hS; intro a w hF hS
 refine wpList_nil ?_
 refine hK9 _ _ ?_
 clear hK9
 refine wp_if hF rfl (fun h => absurd h (by simp)) (fun _ => ?_)
 refine wp_skip ?_
 refine hK8 _ _ ?_
 clear hK8
 refine wp_seq_k ?_; intro K10 hK10
 refine regl ?_
 refine wpl_sq hF hS (sq rfl (q_ld_blkW ty42 4 rfl rfl bQ rfl) <|
   sq rfl (q_ld_blkW ty38 3 rfl rfl bQ rfl) <|
   sq_end) ?_
 clear hF hS; intro a w hF hS
 refine wpl_ef hF hS rfl (ef_call fn22 rfl (fun w hS => tell_ct _ _ _ _ _ _ _ _ _ _ _ (by decide) w (row_one (hS.own _ (List.mem_of_getElem? (i := 5) rfl)).1) (Sl.mono (hS.le (.inr (by simp))) hzS) (Sl.mono (hS.le (.inr (by simp))) hzB) (Sl.mono (hS.le (.inr (by simp))) hkN) (Sl.mono (hS.le (.inr (by simp))) hmN))) ?_
 clear hF hS; rintro _ _ _ a w ⟨_, _, rfl, rfl, ⟨kW, mW, zW, rfl, hkW, hmW, rfl, rfl⟩⟩ hF hS
 replace hS : St _ [_, _, _, _, _, _, _] [_, _, _, _, _, _] _ := hS
 refine wpl_sq hF hS (sq rfl (q_move rfl) <|
   sq rfl (q_extract rfl rfl) <|
   sq rfl (q_extract rfl rfl) <|
   sq_end) ?_
 clear hF hS; intro a w hF hS
 refine wpl_ef hF hS rfl (ef_allocA ty38) ?_
 clear hF hS; rintro _ _ _ a w ⟨b21, rfl, rfl, rfl⟩ hF hS
 refine wpl_ef hF hS rfl (ef_storeW ty38 0 rfl rfl rfl rfl bQ (oc_cons (sl_one' hkW) (oc_cons (sl_one' hmW) oc_nil)) bQ) ?_
 clear hF hS; rintro _ _ _ a w ⟨rfl, rfl, rfl⟩ hF hS
 replace hS : St _ [_, _, _, _, _, _, _] [_, _, _, _, _, _, _] _ := hS
 refine wpl_sq hF hS (sq rfl (q_assign rfl) <|
   sq_end) ?_
 clear hF hS; intro a w hF hS
 refine wpList_nil ?_
 rw [Hu.lv_t1] at hkW hmW hF
 refine hK10 _ _ ?_
 clear hK10
 refine wp_seq_k ?_; intro K11 hK11
 refine reg hF hS (sq rfl (q_ld_blkW ty42 5 rfl rfl bQ rfl) <|
   sq rfl (q_ld_blkW ty38 0 rfl rfl bQ rfl) <|
   sq rfl (q_call fn30 rfl (fun w hS => done_ct _ _ _ _ _ _ _ _ _ (by decide) w (row_one (hS.own _ (List.mem_of_getElem? (i := 6) rfl)).1) (Sl.mono (hS.le (.inr (by simp))) hzS) (Sl.mono (hS.le (.inr (by simp))) hzB) (Sl.mono (hS.le (.inr (by simp))) hkW) (Sl.mono (hS.le (.inr (by simp))) hmW)) (fun _ _ _ h => h)) <|
   sq rfl (q_move rfl) <|
   sq rfl (q_extract rfl rfl) <|
   sq rfl (q_extract rfl rfl) <|
   sq rfl (q_assign rfl) <|
   sq rfl (q_assign rfl) <|
   sq_end) ?_
 clear hF hS; intro a w hF hS
 rw [Hu.lv_dn.1, Hu.lv_dn.2] at hF
 refine hK11 _ _ ?_
 clear hK11
 refine wp_seq_k ?_; intro K12 hK12
 refine regl ?_
 refine wpl_sq hF hS (sq rfl (q_ld_blkW ty42 5 rfl rfl bQ rfl) <|
   sq rfl (q_ld_blkW ty38 0 rfl rfl bQ rfl) <|
   sq_end) ?_
 clear hF hS; intro a w hF hS
 refine wpl_ef hF hS rfl (ef_call fn32 rfl (fun w hS => found_ct _ _ _ _ _ _ _ _ _ (by decide) w (row_one (hS.own _ (List.mem_of_getElem? (i := 6) rfl)).1) (Sl.mono (hS.le (.inr (by simp))) hzS) (Sl.mono (hS.le (.inr (by simp))) hzB) (Sl.mono (hS.le (.inr (by simp))) hkW) (Sl.mono (hS.le (.inr (by simp))) hmW))) ?_
 clear hF hS; rintro _ _ _ a w ⟨_, _, rfl, rfl, ⟨vF, zF, hzF, rfl, rfl, rfl⟩⟩ hF hS
 replace hS : St _ [_, _, _, _, _, _, _, _] [_, _, _, _, _, _, _] _ := hS
 refine wpl_sq hF hS (sq rfl (q_move rfl) <|
   sq rfl (q_extract rfl rfl) <|
   sq rfl (q_extract rfl rfl) <|
   sq rfl (q_assign rfl) <|
   sq rfl (q_assign rfl) <|
   sq_end) ?_
 clear hF hS; intro a w hF hS
 refine wpList_nil ?_
 rw [Hu.lv_fd] at hzF
 rw [Hu.lv_dn.2] at hF
 refine hK12 _ _ ?_
 clear hK12
 refine wp_seq_k ?_; intro K13 hK13
 refine regl ?_
 refine wpl_sq hF hS (sq rfl (q_ld_blkW ty42 5 rfl rfl bQ rfl) <|
   sq rfl (q_ld_blkW ty38 4 rfl rfl bQ rfl) <|
   sq_end) ?_
 clear hF hS; intro a w hF hS
 refine wpl_ef hF hS rfl (ef_call fn22 rfl (fun w hS => tell_ct _ _ _ _ _ _ _ _ _ _ _ (by decide) w (row_one (hS.own _ (List.mem_of_getElem? (i := 6) rfl)).1) (Sl.mono (hS.le (.inr (by simp))) hzS) (Sl.mono (hS.le (.inr (by simp))) hzB) (Sl.mono (hS.le (.inr (by simp))) hkN) (Sl.mono (hS.le (.inr (by simp))) hmN))) ?_
 clear hF hS; rintro _ _ _ a w ⟨_, _, rfl, rfl, ⟨kG, mG, zG, rfl, hkG, hmG, rfl, rfl⟩⟩ hF hS
 replace hS : St _ [_, _, _, _, _, _, _, _, _] [_, _, _, _, _, _, _] _ := hS
 refine wpl_sq hF hS (sq rfl (q_move rfl) <|
   sq rfl (q_extract rfl rfl) <|
   sq rfl (q_extract rfl rfl) <|
   sq_end) ?_
 clear hF hS; intro a w hF hS
 refine wpl_ef hF hS rfl (ef_allocA ty38) ?_
 clear hF hS; rintro _ _ _ a w ⟨b24, rfl, rfl, rfl⟩ hF hS
 refine wpl_ef hF hS rfl (ef_storeW ty38 0 rfl rfl rfl rfl bQ (oc_cons (sl_one' hkG) (oc_cons (sl_one' hmG) oc_nil)) bQ) ?_
 clear hF hS; rintro _ _ _ a w ⟨rfl, rfl, rfl⟩ hF hS
 replace hS : St _ [_, _, _, _, _, _, _, _, _] [_, _, _, _, _, _, _, _] _ := hS
 refine wpl_sq hF hS (sq rfl (q_assign rfl) <|
   sq_end) ?_
 clear hF hS; intro a w hF hS
 refine wpList_nil ?_
 rw [Hu.lv_t2] at hkG hmG hF
 refine hK13 _ _ ?_
 clear hK13
 refine wp_seq_k ?_; intro K14 hK14
 refine regl ?_
 refine wpl_sq hF hS (sq rfl (q_ld_blkW ty42 6 rfl rfl bQ rfl) <|
   sq rfl (q_ld_blkW ty38 0 rfl rfl bQ rfl) <|
   sq_end) ?_
 clear hF hS; intro a w hF hS
 refine wpl_ef hF hS rfl (ef_call fn22 rfl (fun w hS => tell_ct _ _ _ _ _ _ _ _ _ _ _ (by decide) w (row_one (hS.own _ (List.mem_of_getElem? (i := 7) rfl)).1) (Sl.mono (hS.le (.inr (by simp))) hzS) (Sl.mono (hS.le (.inr (by simp))) hzB) (Sl.mono (hS.le (.inr (by simp))) hkG) (Sl.mono (hS.le (.inr (by simp))) hmG))) ?_
 clear hF hS; rintro _ _ _ a w ⟨_, _, rfl, rfl, ⟨kH, mH, zH, rfl, hkH, hmH, rfl, rfl⟩⟩ hF hS
 replace hS : St _ [_, _, _, _, _, _, _, _, _, _] [_, _, _, _, _, _, _, _] _ := hS
 refine wpl_sq hF hS (sq rfl (q_move rfl) <|
   sq rfl (q_extract rfl rfl) <|
   sq rfl (q_extract rfl rfl) <|
   sq_end) ?_
 clear hF hS; intro a w hF hS
 refine wpl_ef hF hS rfl (ef_allocA ty38) ?_
 clear hF hS; rintro _ _ _ a w ⟨b26, rfl, rfl, rfl⟩ hF hS
 refine wpl_ef hF hS rfl (ef_storeW ty38 0 rfl rfl rfl rfl bQ (oc_cons (sl_one' hkH) (oc_cons (sl_one' hmH) oc_nil)) bQ) ?_
 clear hF hS; rintro _ _ _ a w ⟨rfl, rfl, rfl⟩ hF hS
 replace hS : St _ [_, _, _, _, _, _, _, _, _, _] [_, _, _, _, _, _, _, _, _] _ := hS
 refine wpl_sq hF hS (sq rfl (q_assign rfl) <|
   sq_end) ?_
 clear hF hS; intro a w hF hS
 refine wpList_nil ?_
 rw [Hu.lv_t3] at hkH hmH hF
 refine hK14 _ _ ?_
 clear hK14
 refine wp_seq_k ?_; intro K15 hK15
 refine regl ?_
 refine wpl_sq hF hS (sq rfl (q_ld_blkW ty42 7 rfl rfl bQ rfl) <|
   sq rfl (q_ld_blkW ty38 0 rfl rfl bQ rfl) <|
   sq_end) ?_
 clear hF hS; intro a w hF hS
 refine wpl_ef hF hS rfl (ef_bsliceA ty22 ty3 rfl rfl oQ (by decide) rfl rfl) ?_
 clear hF hS; rintro v27 _ _ a w ⟨rfl, rfl⟩ hF hS
 replace hS : St _ [_, _, _, _, _, _, _, _, _, _] [_, _, _, _, _, _, _, _, _, _] _ := hS
 refine wpl_sq hF hS (sq rfl (q_call fn41 rfl (fun w hS => line_ct _ _ _ _ _ _ _ _ _ _ [0, 1, 3, 7] (by decide) (by decide) w (row_one (hS.own _ (List.mem_of_getElem? (i := 9) rfl)).1) (Sl.mono (hS.le (.inr (by simp))) hzS) (Sl.mono (hS.le (.inr (by simp))) hzB) (Sl.mono (hS.le (.inr (by simp))) hkH) (Sl.mono (hS.le (.inr (by simp))) hmH) (own_slV (f := vi) (xs := [0, 1, 3, 7]) (hS.own _ (List.mem_of_getElem? (i := 0) rfl)).1 (by decide) rfl (by decide))) (fun _ _ _ h => h)) <|
   sq rfl (q_move rfl) <|
   sq rfl (q_extract rfl rfl) <|
   sq rfl (q_extract rfl rfl) <|
   sq rfl (q_extract rfl rfl) <|
   sq rfl (q_assign rfl) <|
   sq rfl (q_assign rfl) <|
   sq rfl (q_assign rfl) <|
   sq_end) ?_
 clear hF hS; intro a w hF hS
 refine wpList_nil ?_
 refine hK15 _ _ ?_
 clear hK15
 refine wp_seq_k ?_; intro K16 hK16
 refine regl ?_
 refine wpl_sq hF hS (sq rfl (q_ld_blkW ty42 8 rfl rfl bQ rfl) <|
   sq rfl (q_ld_blkW ty38 2 rfl rfl bQ rfl) <|
   sq_end) ?_
 clear hF hS; intro a w hF hS
 refine wpl_ef hF hS rfl (ef_call fn22 rfl (fun w hS => tell_ct _ _ _ _ _ _ _ _ _ _ _ (by decide) w (row_one (hS.own _ (List.mem_of_getElem? (i := 9) rfl)).1) (Sl.mono (hS.le (.inr (by simp))) hzS) (Sl.mono (hS.le (.inr (by simp))) hzB) (Sl.mono (hS.le (.inr (by simp))) hkG) (Sl.mono (hS.le (.inr (by simp))) hmG))) ?_
 clear hF hS; rintro _ _ _ a w ⟨_, _, rfl, rfl, ⟨kJ, mJ, zJ, rfl, hkJ, hmJ, rfl, rfl⟩⟩ hF hS
 replace hS : St _ [_, _, _, _, _, _, _, _, _, _, _] [_, _, _, _, _, _, _, _, _, _] _ := hS
 refine wpl_sq hF hS (sq rfl (q_move rfl) <|
   sq rfl (q_extract rfl rfl) <|
   sq rfl (q_extract rfl rfl) <|
   sq_end) ?_
 clear hF hS; intro a w hF hS
 refine wpl_ef hF hS rfl (ef_allocA ty38) ?_
 clear hF hS; rintro _ _ _ a w ⟨b30, rfl, rfl, rfl⟩ hF hS
 refine wpl_ef hF hS rfl (ef_storeW ty38 0 rfl rfl rfl rfl bQ (oc_cons (sl_one' hkJ) (oc_cons (sl_one' hmJ) oc_nil)) bQ) ?_
 clear hF hS; rintro _ _ _ a w ⟨rfl, rfl, rfl⟩ hF hS
 replace hS : St _ [_, _, _, _, _, _, _, _, _, _, _] [_, _, _, _, _, _, _, _, _, _, _] _ := hS
 refine wpl_sq hF hS (sq rfl (q_assign rfl) <|
   sq_end) ?_
 clear hF hS; intro a w hF hS
 refine wpList_nil ?_
 rw [Hu.lv_t4] at hkJ hmJ hF
 refine hK16 _ _ ?_
 clear hK16
 refine wp_seq_k ?_; intro K17 hK17
 refine wp_seq_k ?_; intro K18 hK18
 refine regl ?_
 refine wpl_sq hF hS (sq rfl (q_move rfl) <|
   sq rfl (q_nf (q_nei rfl rfl) (rfl)) <|
   sq rfl (q_move rfl) <|
   sq_go 156 rfl rfl rfl (q_move rfl) <|
   sq_go 156 rfl rfl rfl (q_nf (q_nei rfl rfl) (rfl)) <|
   sq rfl (q_pick_f rfl rfl) <|
   sq rfl (q_move rfl) <|
   sq_go 160 rfl rfl rfl (q_move rfl) <|
   sq_go 160 rfl rfl rfl (q_nf (q_nei rfl rfl) (rfl)) <|
   sq rfl (q_pick_f rfl rfl) <|
   sq rfl (q_move rfl) <|
   sq_go 164 rfl rfl rfl (q_move rfl) <|
   sq_go 164 rfl rfl rfl (q_nf (q_nei rfl rfl) (rfl)) <|
   sq rfl (q_pick_f rfl rfl) <|
   sq rfl (q_move rfl) <|
   sq_go 168 rfl rfl rfl (q_move rfl) <|
   sq_go 168 rfl rfl rfl (q_nf (q_nei rfl rfl) (rfl)) <|
   sq rfl (q_pick_f rfl rfl) <|
   sq rfl (q_move rfl) <|
   sq_go 172 rfl rfl rfl (q_move rfl) <|
   sq_go 172 rfl rfl rfl (q_nf (q_nei rfl rfl) (rfl)) <|
   sq rfl (q_pick_f rfl rfl) <|
   sq rfl (q_move rfl) <|
   sq_go 176 rfl rfl rfl (q_move rfl) <|
   sq_go 176 rfl rfl rfl (q_nf (q_nei rfl rfl) (rfl)) <|
   sq rfl (q_pick_f rfl rfl) <|
   sq rfl (q_move rfl) <|
   sq_go 180 rfl rfl rfl (q_move rfl) <|
   sq_go 180 rfl rfl rfl (q_bf (q_not rfl) (rfl)) <|
   sq rfl (q_pick_f rfl rfl) <|
   sq rfl (q_move rfl) <|
   sq_go 184 rfl rfl rfl (q_move rfl) <|
   sq_end) ?_
 clear hF hS; intro a w hF hS
 refine wpl_efg hF hS (wanted_go 184 rfl rfl) rfl (ef_bsliceA ty22 ty3 rfl rfl oQ (by decide) rfl rfl) ?_
 clear hF hS; rintro v31 _ _ a w ⟨rfl, rfl⟩ hF hS
 replace hS : St _ [_, _, _, _, _, _, _, _, _, _, _] [_, _, _, _, _, _, _, _, _, _, _, _] _ := hS
 refine wpl_sq hF hS (sq_go 184 rfl rfl rfl (q_call fn31 rfl (fun w hS => samei_ct _ _ _ _ w (Sl.mono (hS.le (.inr (by simp))) hzF) (own_slV (f := vi) (xs := [0]) (hS.own _ (List.mem_of_getElem? (i := 0) rfl)).1 (by decide) rfl (by decide))) (fun _ _ _ h => h)) <|
   sq_go 184 rfl rfl rfl (q_nf (q_not rfl) (rfl)) <|
   sq rfl (q_pick_f rfl rfl) <|
   sq rfl (q_move rfl) <|
   sq_go 190 rfl rfl rfl (q_move rfl) <|
   sq_go 190 rfl rfl rfl (q_nf (q_nei rfl rfl) (rfl)) <|
   sq rfl (q_pick_f rfl rfl) <|
   sq rfl (q_move rfl) <|
   sq_go 194 rfl rfl rfl (q_move rfl) <|
   sq_go 194 rfl rfl rfl (q_bf (q_not rfl) (rfl)) <|
   sq rfl (q_pick_f rfl rfl) <|
   sq_end) ?_
 clear hF hS; intro a w hF hS
 refine wpList_nil ?_
 refine hK18 _ _ ?_
 clear hK18
 refine wp_if hF rfl (fun h => absurd h (by simp)) (fun _ => ?_)
 refine wp_skip ?_
 refine hK17 _ _ ?_
 clear hK17
 refine wp_seq_k ?_; intro K19 hK19
 refine regl ?_
 refine wpl_sq hF hS (sq rfl (q_ld_blkW ty42 10 rfl rfl bQ rfl) <|
   sq rfl (q_ld_blkW ty38 3 rfl rfl bQ rfl) <|
   sq_end) ?_
 clear hF hS; intro a w hF hS
 refine wpl_ef hF hS rfl (ef_call fn34 rfl (fun w hS => needed_ct _ _ _ _ _ _ _ _ _ (by decide) w (row_one (hS.own _ (List.mem_of_getElem? (i := 11) rfl)).1) (Sl.mono (hS.le (.inr (by simp))) hzS) (Sl.mono (hS.le (.inr (by simp))) hzB) (Sl.mono (hS.le (.inr (by simp))) hkH) (Sl.mono (hS.le (.inr (by simp))) hmH))) ?_
 clear hF hS; rintro _ _ _ a w ⟨_, _, rfl, rfl, ⟨vE, zE, hzE, rfl, rfl, rfl⟩⟩ hF hS
 replace hS : St _ [_, _, _, _, _, _, _, _, _, _, _, _] [_, _, _, _, _, _, _, _, _, _, _, _] _ := hS
 refine wpl_sq hF hS (sq rfl (q_move rfl) <|
   sq rfl (q_extract rfl rfl) <|
   sq rfl (q_extract rfl rfl) <|
   sq rfl (q_assign rfl) <|
   sq rfl (q_assign rfl) <|
   sq_end) ?_
 clear hF hS; intro a w hF hS
 refine wpList_nil ?_
 rw [Hu.lv_nd.1] at hzE
 rw [Hu.lv_nd.2] at hF
 refine hK19 _ _ ?_
 clear hK19
 refine wp_seq_k ?_; intro K20 hK20
 refine regl ?_
 refine wpl_sq hF hS (sq rfl (q_ld_blkW ty42 10 rfl rfl bQ rfl) <|
   sq rfl (q_build rfl (run_build_arr ty66 ty5 (cells := (Hu.dg 1).map vb) rfl)) <|
   sq rfl (q_build rfl (run_build_arr ty66 ty5 (cells := (Hu.dg 2).map vb) rfl)) <|
   sq rfl (q_build rfl (run_build_arr ty66 ty5 (cells := (Hu.dg 3).map vb) rfl)) <|
   sq rfl (q_build rfl (run_build_arr ty66 ty5 (cells := (Hu.dg 2).map vb) rfl)) <|
   sq rfl (q_build rfl (run_build_arr ty66 ty5 (cells := (Hu.dg 5).map vb) rfl)) <|
   sq rfl (q_build rfl (run_build_arr ty66 ty5 (cells := (Hu.dg 6).map vb) rfl)) <|
   sq_end) ?_
 clear hF hS; intro a w hF hS
 refine wpl_ef hF hS rfl (ef_bsliceC ty28 ty66 (Hu.lvK2.map fun x => x.map vb) rfl rfl (Hu.lv16 (by decide)) Hu.lv1c (by decide) rfl rfl) ?_
 clear hF hS; rintro v34 _ _ a w ⟨rfl, rfl⟩ hF hS
 replace hS : St _ [_, _, _, _, _, _, _, _, _, _, _, _] [_, _, _, _, _, _, _, _, _, _, _, _, _] _ := hS
 refine wpl_ef hF hS rfl (ef_bsliceA ty24 ty4 rfl rfl oQ (by decide) rfl rfl) ?_
 clear hF hS; rintro v36 _ _ a w ⟨rfl, rfl⟩ hF hS
 replace hS : St _ [_, _, _, _, _, _, _, _, _, _, _, _] [_, _, _, _, _, _, _, _, _, _, _, _, _, _] _ := hS
 refine wpl_ef hF hS rfl (ef_call fn36 rfl (fun w hS => run_ct _ _ _ _ _ _ Hu.lvK2 _ Hu.lvD2 (by decide) w (row_one (hS.own _ (List.mem_of_getElem? (i := 13) rfl)).1) (Sl.mono (hS.le (.inr (by simp))) hzS) (Sl.mono (hS.le (.inr (by simp))) hzB) (own_slA (l := Hu.lvK2) (hS.own _ (List.mem_of_getElem? (i := 1) rfl)).1 (by decide) rfl (by decide)) (own_slV (f := vt) (xs := [false, true, false, true, false, false]) (hS.own _ (List.mem_of_getElem? (i := 0) rfl)).1 (by decide) rfl (by decide)))) ?_
 clear hF hS; rintro _ _ _ a w ⟨_, _, rfl, rfl, ⟨aS, fS, zS, rfl, haS, hfS, rfl, rfl⟩⟩ hF hS
 replace hS : St _ [_, _, _, _, _, _, _, _, _, _, _, _, _] [_, _, _, _, _, _, _, _, _, _, _, _, _, _] _ := hS
 refine wpl_sq hF hS (sq rfl (q_move rfl) <|
   sq rfl (q_extract rfl rfl) <|
   sq rfl (q_extract rfl rfl) <|
   sq rfl (q_extract rfl rfl) <|
   sq rfl (q_assign rfl) <|
   sq rfl (q_assign rfl) <|
   sq rfl (q_assign rfl) <|
   sq_end) ?_
 clear hF hS; intro a w hF hS
 refine wpList_nil ?_
 rw [Hu.lv_r2.1] at haS
 rw [Hu.lv_r2.2.1] at hfS
 rw [Hu.lv_r2.2.2] at hF
 refine hK20 _ _ ?_
 clear hK20
 refine wp_seq_k ?_; intro K21 hK21
 refine regl ?_
 refine wpl_sq hF hS (sq rfl (q_move rfl) <|
   sq rfl (q_dt (q_eqi rfl rfl) (rfl)) <|
   sq rfl (q_move rfl) <|
   sq_go 220 rfl rfl rfl (q_move rfl) <|
   sq_end) ?_
 clear hF hS; intro a w hF hS
 refine wpl_efg hF hS (wanted_go 220 rfl rfl) rfl (ef_bsliceA ty22 ty3 rfl rfl oQ (by decide) rfl rfl) ?_
 clear hF hS; rintro v39 _ _ a w ⟨rfl, rfl⟩ hF hS
 replace hS : St _ [_, _, _, _, _, _, _, _, _, _, _, _, _] [_, _, _, _, _, _, _, _, _, _, _, _, _, _, _] _ := hS
 refine wpl_sq hF hS (sq_go 220 rfl rfl rfl (q_dt (q_call fn31 rfl (fun w hS => samei_ct _ _ _ _ w (Sl.mono (hS.le (.inr (by simp))) hzE) (own_slV (f := vi) (xs := [0, 7]) (hS.own _ (List.mem_of_getElem? (i := 0) rfl)).1 (by decide) rfl (by decide))) (fun _ _ _ h => h)) (rfl)) <|
   sq rfl (q_pick_t rfl rfl) <|
   sq rfl (q_move rfl) <|
   sq_go 225 rfl rfl rfl (q_move rfl) <|
   sq_go 225 rfl rfl rfl (q_dt (q_eqi rfl rfl) (rfl)) <|
   sq rfl (q_pick_t rfl rfl) <|
   sq rfl (q_move rfl) <|
   sq_go 229 rfl rfl rfl (q_move rfl) <|
   sq_end) ?_
 clear hF hS; intro a w hF hS
 refine wpl_efg hF hS (wanted_go 229 rfl rfl) rfl (ef_bsliceA ty22 ty3 rfl rfl oQ (by decide) rfl rfl) ?_
 clear hF hS; rintro v41 _ _ a w ⟨rfl, rfl⟩ hF hS
 replace hS : St _ [_, _, _, _, _, _, _, _, _, _, _, _, _] [_, _, _, _, _, _, _, _, _, _, _, _, _, _, _, _] _ := hS
 refine wpl_sq hF hS (sq_go 229 rfl rfl rfl (q_dt (q_call fn31 rfl (fun w hS => samei_ct _ _ _ _ w (Sl.mono (hS.le (.inr (by simp))) haS) (own_slV (f := vi) (xs := [0, 1, 4]) (hS.own _ (List.mem_of_getElem? (i := 0) rfl)).1 (by decide) rfl (by decide))) (fun _ _ _ h => h)) (rfl)) <|
   sq rfl (q_pick_t rfl rfl) <|
   sq rfl (q_move rfl) <|
   sq_go 234 rfl rfl rfl (q_move rfl) <|
   sq_end) ?_
 clear hF hS; intro a w hF hS
 refine wpl_efg hF hS (wanted_go 234 rfl rfl) rfl (ef_bsliceA ty22 ty3 rfl rfl oQ (by decide) rfl rfl) ?_
 clear hF hS; rintro v43 _ _ a w ⟨rfl, rfl⟩ hF hS
 replace hS : St _ [_, _, _, _, _, _, _, _, _, _, _, _, _] [_, _, _, _, _, _, _, _, _, _, _, _, _, _, _, _, _] _ := hS
 refine wpl_sq hF hS (sq_go 234 rfl rfl rfl (q_dt (q_call fn31 rfl (fun w hS => samei_ct _ _ _ _ w (Sl.mono (hS.le (.inr (by simp))) hfS) (own_slV (f := vi) (xs := [1]) (hS.own _ (List.mem_of_getElem? (i := 0) rfl)).1 (by decide) rfl (by decide))) (fun _ _ _ h => h)) (rfl)) <|
   sq rfl (q_pick_t rfl rfl) <|
   sq rfl (q_assign rfl) <|
   sq_end) ?_
 clear hF hS; intro a w hF hS
 refine wpList_nil ?_
 refine hK21 _ _ ?_
 clear hK21
 refine wp_ret ?_
 exact fn_ret (rs := [.tmp 0]) rfl hF hS (vs := [_]) ⟨rfl, trivial⟩ zQ zQ (rfl)
end Go.Proofs.Ytefjpigmgmbghaa
