/- A text of a proof over this seat: walks over the program's functions and the plain laws that they need. -/
import Derived.Test.YtngcjojijaknnaaGreatDoorLl6
import Derived.Test.YtngcjojijaknnaaGreatDoorLgA
import Derived.Test.YtngcjojijaknnaaGreatDoorFwB
set_option linter.all false
namespace Go.Proofs.YtngcjojijaknnaaGreatDoor
open Go.Fw
theorem fn26 : FnOk Tryz.prog 26 := ⟨_, Tryz.func26, rfl, by kernel_rfl⟩
theorem fn31 : FnOk Tryz.prog 31 := ⟨_, Tryz.func31, rfl, by kernel_rfl⟩
theorem fn32 : FnOk Tryz.prog 32 := ⟨_, Tryz.func32, rfl, by kernel_rfl⟩
theorem fn35 : FnOk Tryz.prog 35 := ⟨_, Tryz.func35, rfl, by kernel_rfl⟩
theorem fn36 : FnOk Tryz.prog 36 := ⟨_, Tryz.func36, rfl, by kernel_rfl⟩
theorem fn37 : FnOk Tryz.prog 37 := ⟨_, Tryz.func37, rfl, by kernel_rfl⟩
theorem fn38 : FnOk Tryz.prog 38 := ⟨_, Tryz.func38, rfl, by kernel_rfl⟩
theorem fn46 : FnOk Tryz.prog 46 := ⟨_, Tryz.func46, rfl, by kernel_rfl⟩
theorem fn50 : FnOk Tryz.prog 50 := ⟨_, Tryz.func50, rfl, by kernel_rfl⟩
theorem fn63 : FnOk Tryz.prog 63 := ⟨_, Tryz.func63, rfl, by kernel_rfl⟩

attribute [local irreducible] Wi.int Wi.bytes Wi.getInt Wi.getBytes Sha.sum Jn.good Jn.hd Jn.lb Jn.cnt Jn.unp Jn.recd Jn.app Jn.opn Lg.dec Lg.enc Dk.new Dk.trip Dk.mount Lg.add Lg.kn Lg.keys Lg.taken

theorem samet_k (va vb9 : Value) (w : World) (hb1 : Sl Go.Fw.encS (ph w) va (Lg.keys [Lg.x1, Lg.x2] 4)) (hb2 : Sl Go.Fw.encS (ph w) vb9 [[97]]) : Ct Tryz.prog 37 [va, vb9] w (fun r _ _ => r = .bool true) := by
 have h := samet_ct va vb9 _ _ w hb1 hb2
 rw [Lg.ks4, decide_eq_true rfl] at h
 exact h

theorem samef_t (va vb9 : Value) (xs : List Lg.Fct) (w : World) (hb1 : Sl Go.Fw.encY (ph w) va xs) (hb2 : Sl Go.Fw.encY (ph w) vb9 xs) : Ct Tryz.prog 32 [va, vb9] w (fun r _ _ => r = .bool true) := by
 have h := samef_ct va vb9 xs xs w hb1 hb2
 rw [decide_eq_true rfl] at h
 exact h

set_option maxRecDepth 4000 in
set_option maxHeartbeats 2000000 in
theorem lives41_ct (w : World) {fz0 : Nat × Nat} {bt0 : TypeId} (hg0 : w.heap[1]? = some (.cells (Sha.kc.map vw).toArray bt0 fz0)) : Ct Tryz.prog 20 [] w (fun r _ _ => r = .bool true) := by
 refine fn_enter Tryz.func20 rfl Tryz.ntmps20 (Nat.le_of_ble_eq_true rfl) fun a hF hS => ?_
 obtain ⟨F1, F2, ha1, ha2, ha3, ha4, hmt, hop, hof2⟩ := Lg.lives2
 have hof8 := Lg.of8
 have hgd0 := Lg.good_nil
 have hgd1 := Lg.good1
 have hgd2 := Lg.good2
 have hfk0 := Lg.good_fc Lg.good_nil
 have hfk1 := Lg.good_fc Lg.good1
 have hfk2 := Lg.good_fc Lg.good2
 have hkl9 : (Lg.keys [Lg.x1, Lg.x2] 4).length ≤ 140737488355328 := by rw [Lg.ks4]; decide
 refine wp_seq_k ?_; intro K1 hK1
 refine reg hF hS (sq rfl (q_assign rfl) <|
   sq_end) ?_
 clear hF hS; intro a w hF hS
 refine hK1 _ _ ?_
 clear hK1
 refine wp_seq_k ?_; intro K2 hK2
 refine regl ?_
 refine wpl_ef hF hS rfl (ef_call fn63 rfl (fun w hS => dnew_ct 8 (by decide) w )) ?_
 clear hF hS; rintro _ _ _ a w ⟨_, _, rfl, rfl, ⟨rfl, hh2, qa3, qb4, qc5, qd6, rfl, rfl, hD7⟩⟩ hF hS
 replace hS : St _ [] [_, _, _, _] _ := hS
 refine wpl_sq hF hS (sq rfl (q_move rfl) <|
   sq rfl (q_extract rfl rfl) <|
   sq rfl (q_extract rfl rfl) <|
   sq rfl (q_assign rfl) <|
   sq rfl (q_assign rfl) <|
   sq_end) ?_
 clear hF hS; intro a w hF hS
 refine wpList_nil ?_
 refine hK2 _ _ ?_
 clear hK2
 refine wp_seq_k ?_; intro K3 hK3
 refine wp_seq_k ?_; intro K4 hK4
 refine reg hF hS (sq rfl (q_move rfl) <|
   sq rfl (q_nf (q_nei rfl rfl) (by decide)) <|
   sq rfl (q_move rfl) <|
   sq_go 26 rfl rfl rfl (q_move rfl) <|
   sq_go 26 rfl rfl rfl (q_eqpn_f ty46 rfl rfl) <|
   sq rfl (q_pick_f rfl rfl) <|
   sq_end) ?_
 clear hF hS; intro a w hF hS
 refine hK4 _ _ ?_
 clear hK4
 refine wp_if hF rfl (fun h => absurd h (by simp)) (fun _ => ?_)
 refine wp_skip ?_
 refine hK3 _ _ ?_
 clear hK3
 refine wp_seq_k ?_; intro K5 hK5
 refine regl ?_
 refine wpl_sq hF hS (sq rfl (q_move rfl) <|
   sq_end) ?_
 clear hF hS; intro a w hF hS
 refine wpl_ef hF hS rfl (ef_callx fn31 rfl (List.Perm.refl _) (by exact (lopen_ct _ _ (by assumption) _ _ hg0 hD7))) ?_
 clear hF hS; rintro _ _ _ a w ⟨_, _, rfl, rfl, ⟨rfl, bl13, jb14, fv15, qa16, qb17, qc18, qd19, ua20, ub21, uc22, ud23, rfl, rfl, hJ24, hD25⟩⟩ hF hS
 replace hS : St _ [] [_, _, _, _, _, _, _, _, _, _] _ := hS
 refine wpl_sq hF hS (sq rfl (q_move rfl) <|
   sq rfl (q_extract rfl rfl) <|
   sq rfl (q_extract rfl rfl) <|
   sq rfl (q_assign rfl) <|
   sq rfl (q_assign rfl) <|
   sq_end) ?_
 clear hF hS; intro a w hF hS
 refine wpList_nil ?_
 rw [Lg.op0] at hJ24
 rw [Lg.op0, Lg.tk0] at hS
 (try dsimp only at hS)
 refine hK5 _ _ ?_
 clear hK5
 refine wp_seq_k ?_; intro K6 hK6
 refine wp_seq_k ?_; intro K7 hK7
 refine reg hF hS (sq rfl (q_move rfl) <|
   sq rfl (q_nf (q_nei rfl rfl) (by decide)) <|
   sq rfl (q_move rfl) <|
   sq_go 37 rfl rfl rfl (q_move rfl) <|
   sq_go 37 rfl rfl rfl (q_eqpn_f ty45 rfl rfl) <|
   sq rfl (q_pick_f rfl rfl) <|
   sq rfl (q_move rfl) <|
   sq_go 41 rfl rfl rfl (q_move rfl) <|
   sq_go 41 rfl rfl rfl (q_call fn33 rfl (fun w hS => clock_ct _ _ _ _ w (own_box hS 0 rfl) (own_slK (hl := Lg.fcC_len) (h1 := Lg.fcC_one) (hS.own _ (List.mem_of_getElem? (i := 1) rfl)).1 rfl (by first | omega | (simp; done)) (by assumption))) (fun _ _ _ h => h)) <|
   sq_go 41 rfl rfl rfl (q_nf (q_nei rfl rfl) (by decide)) <|
   sq rfl (q_pick_f rfl rfl) <|
   sq_end) ?_
 clear hF hS; intro a w hF hS
 refine hK7 _ _ ?_
 clear hK7
 refine wp_if hF rfl (fun h => absurd h (by simp)) (fun _ => ?_)
 refine wp_skip ?_
 refine hK6 _ _ ?_
 clear hK6
 refine wp_seq_k ?_; intro K8 hK8
 refine reg hF hS (sq rfl (q_move rfl) <|
   sq rfl (q_call fn38 rfl (fun w hS => at_ct _ _ _ _ _ _ Lg.good_nil.srt (by decide) w (own_box hS 0 rfl) (own_slK (hl := Lg.fcC_len) (h1 := Lg.fcC_one) (hS.own _ (List.mem_of_getElem? (i := 1) rfl)).1 rfl (by first | omega | (simp; done)) (by assumption))) (fun _ _ _ h => h)) <|
   sq rfl (q_move rfl) <|
   sq rfl (q_extract rfl rfl) <|
   sq rfl (q_extract rfl rfl) <|
   sq rfl (q_assign rfl) <|
   sq rfl (q_assign rfl) <|
   sq_end) ?_
 clear hF hS; intro a w hF hS
 rw [Lg.kn0] at hF; (try dsimp only at hF)
 refine hK8 _ _ ?_
 clear hK8
 refine wp_seq_k ?_; intro K9 hK9
 refine regl ?_
 refine wpl_sq hF hS (sq rfl (q_move rfl) <|
   sq rfl (q_buildS1 ty24 3 kQ rfl rfl (oc_cons rfl (oc_cons rfl (oc_cons rfl oc_nil))) rfl rfl) <|
   sq_end) ?_
 clear hF hS; intro a w hF hS
 refine wpl_ef hF hS rfl (ef_callx fn36 rfl (List.Perm.refl _) (by exact (ladd_ct _ _ _ Lg.E0 Lg.x1 (Lg.x_ok.1) (by decide) _ _ hg0 (by assumption) hJ24 hD25 (fv := fv15)))) ?_
 clear hF hS; rintro _ _ _ a w ⟨_, _, rfl, rfl, ⟨rfl, rfl, fv33, qa34, qb35, qc36, qd37, ua38, ub39, uc40, ud41, rfl, hJ42, hD43⟩⟩ hF hS
 replace hS : St _ [] [_, _, _, _, _, _, _, _, _, _] _ := hS
 refine wpl_sq hF hS (sq rfl (q_assign rfl) <|
   sq_end) ?_
 clear hF hS; intro a w hF hS
 refine wpList_nil ?_
 rw [ha1] at hJ42; (try dsimp only [Lg.E0, Lg.E1, Lg.E2, Lg.E3, Lg.E4] at hJ42)
 rw [ha1] at hD43; (try dsimp only [Lg.E0, Lg.E1, Lg.E2, Lg.E3, Lg.E4] at hD43)
 rw [ha1] at hS; (try dsimp only [Lg.E0, Lg.E1, Lg.E2, Lg.E3, Lg.E4] at hS)
 rw [ha1] at hF; (try dsimp only [Lg.E0, Lg.E1, Lg.E2, Lg.E3, Lg.E4] at hF)
 refine hK9 _ _ ?_
 clear hK9
 refine wp_seq_k ?_; intro K10 hK10
 refine regl ?_
 refine wpl_sq hF hS (sq rfl (q_move rfl) <|
   sq rfl (q_buildS1 ty24 3 kQ rfl rfl (oc_cons rfl (oc_cons rfl (oc_cons rfl oc_nil))) rfl rfl) <|
   sq_end) ?_
 clear hF hS; intro a w hF hS
 refine wpl_ef hF hS rfl (ef_callx fn36 rfl (List.Perm.refl _) (by exact (ladd_ct _ _ _ (Lg.E1 F1) Lg.x2 (Lg.x_ok.2.1) (by decide) _ _ hg0 (by assumption) hJ42 hD43 (fv := fv33)))) ?_
 clear hF hS; rintro _ _ _ a w ⟨_, _, rfl, rfl, ⟨rfl, rfl, fv45, qa46, qb47, qc48, qd49, ua50, ub51, uc52, ud53, rfl, hJ54, hD55⟩⟩ hF hS
 replace hS : St _ [] [_, _, _, _, _, _, _, _, _, _] _ := hS
 refine wpl_sq hF hS (sq rfl (q_assign rfl) <|
   sq_end) ?_
 clear hF hS; intro a w hF hS
 refine wpList_nil ?_
 rw [ha2] at hJ54; (try dsimp only [Lg.E0, Lg.E1, Lg.E2, Lg.E3, Lg.E4] at hJ54)
 rw [ha2] at hD55; (try dsimp only [Lg.E0, Lg.E1, Lg.E2, Lg.E3, Lg.E4] at hD55)
 rw [ha2] at hS; (try dsimp only [Lg.E0, Lg.E1, Lg.E2, Lg.E3, Lg.E4] at hS)
 rw [ha2] at hF; (try dsimp only [Lg.E0, Lg.E1, Lg.E2, Lg.E3, Lg.E4] at hF)
 refine hK10 _ _ ?_
 clear hK10
 refine wp_seq_k ?_; intro K11 hK11
 refine regl ?_
 refine wpl_sq hF hS (sq rfl (q_move rfl) <|
   sq rfl (q_buildS1 ty24 3 kQ rfl rfl (oc_cons rfl (oc_cons rfl (oc_cons rfl oc_nil))) rfl rfl) <|
   sq_end) ?_
 clear hF hS; intro a w hF hS
 refine wpl_ef hF hS rfl (ef_callx fn36 rfl (List.Perm.refl _) (by exact (ladd_ct _ _ _ (Lg.E2 F2) Lg.x3 (Lg.x_ok.2.2.1) (by decide) _ _ hg0 (by assumption) hJ54 hD55 (fv := fv45)))) ?_
 clear hF hS; rintro _ _ _ a w ⟨_, _, rfl, rfl, ⟨rfl, rfl, fv57, qa58, qb59, qc60, qd61, ua62, ub63, uc64, ud65, rfl, hJ66, hD67⟩⟩ hF hS
 replace hS : St _ [] [_, _, _, _, _, _, _, _, _, _] _ := hS
 refine wpl_sq hF hS (sq rfl (q_assign rfl) <|
   sq_end) ?_
 clear hF hS; intro a w hF hS
 refine wpList_nil ?_
 rw [ha3] at hJ66; (try dsimp only [Lg.E0, Lg.E1, Lg.E2, Lg.E3, Lg.E4] at hJ66)
 rw [ha3] at hD67; (try dsimp only [Lg.E0, Lg.E1, Lg.E2, Lg.E3, Lg.E4] at hD67)
 rw [ha3] at hS; (try dsimp only [Lg.E0, Lg.E1, Lg.E2, Lg.E3, Lg.E4] at hS)
 rw [ha3] at hF; (try dsimp only [Lg.E0, Lg.E1, Lg.E2, Lg.E3, Lg.E4] at hF)
 refine hK11 _ _ ?_
 clear hK11
 refine wp_seq_k ?_; intro K12 hK12
 refine reg hF hS (sq rfl (q_move rfl) <|
   sq rfl (q_call fn38 rfl (fun w hS => at_ct _ _ _ _ _ _ Lg.good2.srt (by decide) w (own_box hS 0 rfl) (own_slK (hl := Lg.fcC_len) (h1 := Lg.fcC_one) (hS.own _ (List.mem_of_getElem? (i := 1) rfl)).1 rfl (by first | omega | (simp; done)) (by assumption))) (fun _ _ _ h => h)) <|
   sq rfl (q_move rfl) <|
   sq rfl (q_extract rfl rfl) <|
   sq rfl (q_extract rfl rfl) <|
   sq rfl (q_assign rfl) <|
   sq rfl (q_assign rfl) <|
   sq_end) ?_
 clear hF hS; intro a w hF hS
 rw [Lg.kn2] at hF; (try dsimp only at hF)
 refine hK12 _ _ ?_
 clear hK12
 refine wp_seq_k ?_; intro K13 hK13
 refine reg hF hS (sq rfl (q_move rfl) <|
   sq rfl (q_call fn38 rfl (fun w hS => at_ct _ _ _ _ _ _ Lg.good2.srt (by decide) w (own_box hS 0 rfl) (own_slK (hl := Lg.fcC_len) (h1 := Lg.fcC_one) (hS.own _ (List.mem_of_getElem? (i := 1) rfl)).1 rfl (by first | omega | (simp; done)) (by assumption))) (fun _ _ _ h => h)) <|
   sq rfl (q_move rfl) <|
   sq rfl (q_extract rfl rfl) <|
   sq rfl (q_extract rfl rfl) <|
   sq rfl (q_assign rfl) <|
   sq rfl (q_assign rfl) <|
   sq_end) ?_
 clear hF hS; intro a w hF hS
 rw [Lg.kn4] at hF; (try dsimp only at hF)
 refine hK13 _ _ ?_
 clear hK13
 refine wp_seq_k ?_; intro K14 hK14
 refine reg hF hS (sq rfl (q_move rfl) <|
   sq rfl (q_call fn38 rfl (fun w hS => at_ct _ _ _ _ _ _ Lg.good2.srt (by decide) w (own_box hS 0 rfl) (own_slK (hl := Lg.fcC_len) (h1 := Lg.fcC_one) (hS.own _ (List.mem_of_getElem? (i := 1) rfl)).1 rfl (by first | omega | (simp; done)) (by assumption))) (fun _ _ _ h => h)) <|
   sq rfl (q_move rfl) <|
   sq rfl (q_extract rfl rfl) <|
   sq rfl (q_extract rfl rfl) <|
   sq rfl (q_assign rfl) <|
   sq rfl (q_assign rfl) <|
   sq_end) ?_
 clear hF hS; intro a w hF hS
 rw [Lg.kn5] at hF; (try dsimp only at hF)
 refine hK14 _ _ ?_
 clear hK14
 refine wp_seq_k ?_; intro K15 hK15
 refine wp_seq_k ?_; intro K16 hK16
 refine regl ?_
 refine wpl_sq hF hS (sq rfl (q_move rfl) <|
   sq rfl (q_move rfl) <|
   sq_go 76 rfl rfl rfl (q_move rfl) <|
   sq_go 76 rfl rfl rfl (q_nf (q_nei rfl rfl) (by decide)) <|
   sq rfl (q_pick_f rfl rfl) <|
   sq rfl (q_move rfl) <|
   sq_go 80 rfl rfl rfl (q_move rfl) <|
   sq_go 80 rfl rfl rfl (q_nf (q_nei rfl rfl) (by decide)) <|
   sq rfl (q_pick_f rfl rfl) <|
   sq rfl (q_move rfl) <|
   sq_go 84 rfl rfl rfl (q_move rfl) <|
   sq_go 84 rfl rfl rfl (q_nf (q_nei rfl rfl) (by decide)) <|
   sq rfl (q_pick_f rfl rfl) <|
   sq rfl (q_move rfl) <|
   sq_go 88 rfl rfl rfl (q_move rfl) <|
   sq rfl (q_pick_f rfl rfl) <|
   sq rfl (q_move rfl) <|
   sq_go 91 rfl rfl rfl (q_move rfl) <|
   sq_go 91 rfl rfl rfl (q_not rfl) <|
   sq rfl (q_pick_f rfl rfl) <|
   sq rfl (q_move rfl) <|
   sq_go 95 rfl rfl rfl (q_move rfl) <|
   sq_go 95 rfl rfl rfl (q_not rfl) <|
   sq rfl (q_pick_f rfl rfl) <|
   sq rfl (q_move rfl) <|
   sq_go 99 rfl rfl rfl (q_move rfl) <|
   sq_go 99 rfl rfl rfl (q_nf (q_nes (q := [120]) rfl rfl) (by decide)) <|
   sq rfl (q_pick_f rfl rfl) <|
   sq rfl (q_move rfl) <|
   sq_go 103 rfl rfl rfl (q_move rfl) <|
   sq_go 103 rfl rfl rfl (q_nf (q_nes (q := [121]) rfl rfl) (by decide)) <|
   sq rfl (q_pick_f rfl rfl) <|
   sq rfl (q_move rfl) <|
   sq_go 107 rfl rfl rfl (q_move rfl) <|
   sq_end) ?_
 clear hF hS; intro a w hF hS
 refine wpl_efg hF hS (wanted_go 107 rfl rfl) rfl (ef_call fn35 rfl (fun w hS => keys_ct _ _ _ _ _ Lg.good2.srt (by decide) w (own_box hS 0 rfl) (own_slK (hl := Lg.fcC_len) (h1 := Lg.fcC_one) (hS.own _ (List.mem_of_getElem? (i := 1) rfl)).1 rfl (by first | omega | (simp; done)) (by assumption)))) ?_
 clear hF hS; rintro v68 _ _ a w ⟨_, _, rfl, rfl, ⟨rfl, rfl⟩⟩ hF hS
 replace hS : St _ [] [_, _, _, _, _, _, _, _, _, _, _] _ := hS
 refine wpl_efg hF hS (wanted_go 107 rfl rfl) rfl (ef_bsliceA ty40 ty9 rfl rfl oQ (by decide) rfl rfl) ?_
 clear hF hS; rintro v70 _ _ a w ⟨rfl, rfl⟩ hF hS
 replace hS : St _ [] [_, _, _, _, _, _, _, _, _, _, _, _] _ := hS
 refine wpl_sq hF hS (sq_go 107 rfl rfl rfl (q_call fn37 rfl (fun w hS => samet_k _ _ w (own_slV (f := vs) (xs := (Lg.keys [Lg.x1, Lg.x2] 4)) (hS.own _ (List.mem_of_getElem? (i := 1) rfl)).1 (by rw [Lg.ks4]; decide) rfl (by first | decide | omega)) (own_slV (f := vs) (xs := [[97]]) (hS.own _ (List.mem_of_getElem? (i := 0) rfl)).1 (by decide) rfl (by first | decide | omega))) (fun _ _ _ h => h)) <|
   sq_go 107 rfl rfl rfl (q_not rfl) <|
   sq rfl (q_pick_f rfl rfl) <|
   sq rfl (q_move rfl) <|
   sq_go 114 rfl rfl rfl (q_move rfl) <|
   sq_go 114 rfl rfl rfl (q_call fn33 rfl (fun w hS => clock_ct _ _ _ _ w (own_box hS 2 rfl) (own_slK (hl := Lg.fcC_len) (h1 := Lg.fcC_one) (hS.own _ (List.mem_of_getElem? (i := 3) rfl)).1 rfl (by first | omega | (simp; done)) (by assumption))) (fun _ _ _ h => h)) <|
   sq_go 114 rfl rfl rfl (q_nf (q_nei rfl rfl) (by decide)) <|
   sq rfl (q_pick_f rfl rfl) <|
   sq_end) ?_
 clear hF hS; intro a w hF hS
 refine wpList_nil ?_
 refine hK16 _ _ ?_
 clear hK16
 refine wp_if hF rfl (fun h => absurd h (by simp)) (fun _ => ?_)
 refine wp_skip ?_
 refine hK15 _ _ ?_
 clear hK15
 refine wp_seq_k ?_; intro K17 hK17
 refine regl ?_
 refine wpl_sq hF hS (sq rfl (q_move rfl) <|
   sq_end) ?_
 clear hF hS; intro a w hF hS
 replace hS := hS.perm (.cons _ (.cons _ (.cons _ (.cons _ (.cons _ (.cons _ (.cons _ (.swap _ _ _))))))))
 replace hS := hS.perm (.cons _ (.cons _ (.cons _ (.cons _ (.cons _ (.cons _ (.swap _ _ _)))))))
 replace hS := hS.perm (.cons _ (.cons _ (.cons _ (.cons _ (.cons _ (.swap _ _ _))))))
 replace hS := hS.perm (.cons _ (.cons _ (.cons _ (.cons _ (.swap _ _ _)))))
 replace hS := hS.perm (.cons _ (.cons _ (.cons _ (.swap _ _ _))))
 replace hS := hS.perm (.cons _ (.cons _ (.swap _ _ _)))
 replace hS := hS.perm (.cons _ (.swap _ _ _))
 replace hS := hS.perm (.swap _ _ _)
 replace hS := hS.perm (.cons _ (.cons _ (.cons _ (.cons _ (.cons _ (.cons _ (.cons _ (.cons _ (.swap _ _ _)))))))))
 replace hS := hS.perm (.cons _ (.cons _ (.cons _ (.cons _ (.cons _ (.cons _ (.cons _ (.swap _ _ _))))))))
 replace hS := hS.perm (.cons _ (.cons _ (.cons _ (.cons _ (.cons _ (.cons _ (.swap _ _ _)))))))
 replace hS := hS.perm (.cons _ (.cons _ (.cons _ (.cons _ (.cons _ (.swap _ _ _))))))
 replace hS := hS.perm (.cons _ (.cons _ (.cons _ (.cons _ (.swap _ _ _)))))
 replace hS := hS.perm (.cons _ (.cons _ (.cons _ (.swap _ _ _))))
 replace hS := hS.perm (.cons _ (.cons _ (.swap _ _ _)))
 replace hS := hS.perm (.cons _ (.swap _ _ _))
 replace hS := hS.perm (.cons _ (.cons _ (.cons _ (.cons _ (.cons _ (.cons _ (.cons _ (.cons _ (.cons _ (.swap _ _ _))))))))))
 replace hS := hS.perm (.cons _ (.cons _ (.cons _ (.cons _ (.cons _ (.cons _ (.cons _ (.cons _ (.swap _ _ _)))))))))
 replace hS := hS.perm (.cons _ (.cons _ (.cons _ (.cons _ (.cons _ (.cons _ (.cons _ (.swap _ _ _))))))))
 replace hS := hS.perm (.cons _ (.cons _ (.cons _ (.cons _ (.cons _ (.cons _ (.swap _ _ _)))))))
 replace hS := hS.perm (.cons _ (.cons _ (.cons _ (.cons _ (.cons _ (.swap _ _ _))))))
 replace hS := hS.perm (.cons _ (.cons _ (.cons _ (.cons _ (.swap _ _ _)))))
 replace hS := hS.perm (.cons _ (.cons _ (.cons _ (.swap _ _ _))))
 replace hS := hS.perm (.cons _ (.cons _ (.swap _ _ _)))
 replace hS := hS.perm (.cons _ (.cons _ (.cons _ (.cons _ (.cons _ (.cons _ (.cons _ (.cons _ (.cons _ (.cons _ (.swap _ _ _)))))))))))
 replace hS := hS.perm (.cons _ (.cons _ (.cons _ (.cons _ (.cons _ (.cons _ (.cons _ (.cons _ (.cons _ (.swap _ _ _))))))))))
 replace hS := hS.perm (.cons _ (.cons _ (.cons _ (.cons _ (.cons _ (.cons _ (.cons _ (.cons _ (.swap _ _ _)))))))))
 replace hS := hS.perm (.cons _ (.cons _ (.cons _ (.cons _ (.cons _ (.cons _ (.cons _ (.swap _ _ _))))))))
 replace hS := hS.perm (.cons _ (.cons _ (.cons _ (.cons _ (.cons _ (.cons _ (.swap _ _ _)))))))
 replace hS := hS.perm (.cons _ (.cons _ (.cons _ (.cons _ (.cons _ (.swap _ _ _))))))
 replace hS := hS.perm (.cons _ (.cons _ (.cons _ (.cons _ (.swap _ _ _)))))
 replace hS := hS.perm (.cons _ (.cons _ (.cons _ (.swap _ _ _))))
 replace hS : St _ [] [_, _, _, _, _, _, _, _, _, _, _, _] _ := hS
 refine wpl_ef hF hS rfl (ef_callx fn46 rfl (List.Perm.refl _) (by exact (dtrip_ct _ _ _ (by omega) _ _  hD67))) ?_
 clear hF hS; rintro _ _ _ a w ⟨_, _, rfl, rfl, ⟨rfl, rfl, qa73, qb74, qc75, qd76, rfl, hD77⟩⟩ hF hS
 replace hS : St _ [] [_, _, _, _, _, _, _, _, _, _, _, _] _ := hS
 refine wpList_nil ?_
 refine hK17 _ _ ?_
 clear hK17
 refine wp_seq_k ?_; intro K18 hK18
 refine regl ?_
 refine wpl_sq hF hS (sq rfl (q_move rfl) <|
   sq rfl (q_buildS1 ty24 3 kQ rfl rfl (oc_cons rfl (oc_cons rfl (oc_cons rfl oc_nil))) rfl rfl) <|
   sq_end) ?_
 clear hF hS; intro a w hF hS
 replace hS := hS.perm (.cons _ (.cons _ (.cons _ (.cons _ (.cons _ (.swap _ _ _))))))
 replace hS := hS.perm (.cons _ (.cons _ (.cons _ (.cons _ (.swap _ _ _)))))
 replace hS := hS.perm (.cons _ (.cons _ (.cons _ (.swap _ _ _))))
 replace hS := hS.perm (.cons _ (.cons _ (.swap _ _ _)))
 replace hS := hS.perm (.cons _ (.swap _ _ _))
 replace hS := hS.perm (.swap _ _ _)
 replace hS := hS.perm (.cons _ (.cons _ (.cons _ (.cons _ (.cons _ (.cons _ (.swap _ _ _)))))))
 replace hS := hS.perm (.cons _ (.cons _ (.cons _ (.cons _ (.cons _ (.swap _ _ _))))))
 replace hS := hS.perm (.cons _ (.cons _ (.cons _ (.cons _ (.swap _ _ _)))))
 replace hS := hS.perm (.cons _ (.cons _ (.cons _ (.swap _ _ _))))
 replace hS := hS.perm (.cons _ (.cons _ (.swap _ _ _)))
 replace hS := hS.perm (.cons _ (.swap _ _ _))
 replace hS := hS.perm (.cons _ (.cons _ (.cons _ (.cons _ (.cons _ (.cons _ (.cons _ (.swap _ _ _))))))))
 replace hS := hS.perm (.cons _ (.cons _ (.cons _ (.cons _ (.cons _ (.cons _ (.swap _ _ _)))))))
 replace hS := hS.perm (.cons _ (.cons _ (.cons _ (.cons _ (.cons _ (.swap _ _ _))))))
 replace hS := hS.perm (.cons _ (.cons _ (.cons _ (.cons _ (.swap _ _ _)))))
 replace hS := hS.perm (.cons _ (.cons _ (.cons _ (.swap _ _ _))))
 replace hS := hS.perm (.cons _ (.cons _ (.swap _ _ _)))
 replace hS := hS.perm (.cons _ (.cons _ (.cons _ (.cons _ (.cons _ (.cons _ (.cons _ (.cons _ (.swap _ _ _)))))))))
 replace hS := hS.perm (.cons _ (.cons _ (.cons _ (.cons _ (.cons _ (.cons _ (.cons _ (.swap _ _ _))))))))
 replace hS := hS.perm (.cons _ (.cons _ (.cons _ (.cons _ (.cons _ (.cons _ (.swap _ _ _)))))))
 replace hS := hS.perm (.cons _ (.cons _ (.cons _ (.cons _ (.cons _ (.swap _ _ _))))))
 replace hS := hS.perm (.cons _ (.cons _ (.cons _ (.cons _ (.swap _ _ _)))))
 replace hS := hS.perm (.cons _ (.cons _ (.cons _ (.swap _ _ _))))
 replace hS := hS.perm (.cons _ (.cons _ (.cons _ (.cons _ (.cons _ (.cons _ (.cons _ (.cons _ (.cons _ (.swap _ _ _))))))))))
 replace hS := hS.perm (.cons _ (.cons _ (.cons _ (.cons _ (.cons _ (.cons _ (.cons _ (.cons _ (.swap _ _ _)))))))))
 replace hS := hS.perm (.cons _ (.cons _ (.cons _ (.cons _ (.cons _ (.cons _ (.cons _ (.swap _ _ _))))))))
 replace hS := hS.perm (.cons _ (.cons _ (.cons _ (.cons _ (.cons _ (.cons _ (.swap _ _ _)))))))
 replace hS := hS.perm (.cons _ (.cons _ (.cons _ (.cons _ (.cons _ (.swap _ _ _))))))
 replace hS := hS.perm (.cons _ (.cons _ (.cons _ (.cons _ (.swap _ _ _)))))
 replace hS := hS.perm (.cons _ (.cons _ (.cons _ (.cons _ (.cons _ (.cons _ (.cons _ (.cons _ (.cons _ (.cons _ (.swap _ _ _)))))))))))
 replace hS := hS.perm (.cons _ (.cons _ (.cons _ (.cons _ (.cons _ (.cons _ (.cons _ (.cons _ (.cons _ (.swap _ _ _))))))))))
 replace hS := hS.perm (.cons _ (.cons _ (.cons _ (.cons _ (.cons _ (.cons _ (.cons _ (.cons _ (.swap _ _ _)))))))))
 replace hS := hS.perm (.cons _ (.cons _ (.cons _ (.cons _ (.cons _ (.cons _ (.cons _ (.swap _ _ _))))))))
 replace hS := hS.perm (.cons _ (.cons _ (.cons _ (.cons _ (.cons _ (.cons _ (.swap _ _ _)))))))
 replace hS := hS.perm (.cons _ (.cons _ (.cons _ (.cons _ (.cons _ (.swap _ _ _))))))
 replace hS : St _ [] [_, _, _, _, _, _, _, _, _, _, _, _] _ := hS
 refine wpl_ef hF hS rfl (ef_callx fn36 rfl (List.Perm.refl _) (by exact (ladd_ct _ _ _ (Lg.E3 F2) Lg.x4 (Lg.x_ok.2.2.2) (by decide) _ _ hg0 (by assumption) hJ66 hD77 (fv := fv57)))) ?_
 clear hF hS; rintro _ _ _ a w ⟨_, _, rfl, rfl, ⟨rfl, rfl, fv79, qa80, qb81, qc82, qd83, ua84, ub85, uc86, ud87, rfl, hJ88, hD89⟩⟩ hF hS
 replace hS : St _ [] [_, _, _, _, _, _, _, _, _, _, _, _] _ := hS
 refine wpl_sq hF hS (sq rfl (q_assign rfl) <|
   sq_end) ?_
 clear hF hS; intro a w hF hS
 refine wpList_nil ?_
 rw [ha4] at hJ88; (try dsimp only [Lg.E0, Lg.E1, Lg.E2, Lg.E3, Lg.E4] at hJ88)
 rw [ha4] at hD89; (try dsimp only [Lg.E0, Lg.E1, Lg.E2, Lg.E3, Lg.E4] at hD89)
 rw [ha4] at hS; (try dsimp only [Lg.E0, Lg.E1, Lg.E2, Lg.E3, Lg.E4] at hS)
 rw [ha4] at hF; (try dsimp only [Lg.E0, Lg.E1, Lg.E2, Lg.E3, Lg.E4] at hF)
 refine hK18 _ _ ?_
 clear hK18
 refine wp_seq_k ?_; intro K19 hK19
 refine regl ?_
 refine wpl_sq hF hS (sq rfl (q_move rfl) <|
   sq_end) ?_
 clear hF hS; intro a w hF hS
 refine wpl_ef hF hS rfl (ef_call fn26 rfl (fun w hS => facts_ct _ _ _ _ (by decide) w (own_box hS 0 rfl) (own_slK (hl := Lg.fcC_len) (h1 := Lg.fcC_one) (hS.own _ (List.mem_of_getElem? (i := 1) rfl)).1 rfl (by first | omega | (simp; done)) (by assumption)))) ?_
 clear hF hS; rintro v90 _ _ a w ⟨_, _, rfl, rfl, ⟨rfl, rfl⟩⟩ hF hS
 replace hS : St _ [] [_, _, _, _, _, _, _, _, _, _, _, _, _] _ := hS
 refine wpl_sq hF hS (sq rfl (q_len_row ty26 0 rfl rfl) <|
   sq rfl (q_assign rfl) <|
   sq_end) ?_
 clear hF hS; intro a w hF hS
 refine wpList_nil ?_
 refine hK19 _ _ ?_
 clear hK19
 refine wp_seq_k ?_; intro K20 hK20
 refine regl ?_
 refine wpl_sq hF hS (sq rfl (q_move rfl) <|
   sq_end) ?_
 clear hF hS; intro a w hF hS
 refine wpl_ef hF hS rfl (ef_bsliceA ty22 ty3 rfl rfl oQ (by decide) rfl rfl) ?_
 clear hF hS; rintro v92 _ _ a w ⟨rfl, rfl⟩ hF hS
 replace hS : St _ [] [_, _, _, _, _, _, _, _, _, _, _, _, _, _] _ := hS
 obtain ⟨z94, hz95, hS⟩ := St.freezeV (h0 := fun _ => rfl) (f := vi) (p := fun x => -9223372036854775808 ≤ x ∧ x ≤ 9223372036854775807) (xs := [0]) hS (by first | rfl | (simp; done)) (by first | decide | omega | (simp; omega)) (by decide)
 replace hS := hS.perm (.cons _ (.cons _ (.cons _ (.cons _ (.cons _ (.cons _ (.swap _ _ _)))))))
 replace hS := hS.perm (.cons _ (.cons _ (.cons _ (.cons _ (.cons _ (.swap _ _ _))))))
 replace hS := hS.perm (.cons _ (.cons _ (.cons _ (.cons _ (.swap _ _ _)))))
 replace hS := hS.perm (.cons _ (.cons _ (.cons _ (.swap _ _ _))))
 replace hS := hS.perm (.cons _ (.cons _ (.swap _ _ _)))
 replace hS := hS.perm (.cons _ (.swap _ _ _))
 replace hS := hS.perm (.swap _ _ _)
 replace hS := hS.perm (.cons _ (.cons _ (.cons _ (.cons _ (.cons _ (.cons _ (.cons _ (.swap _ _ _))))))))
 replace hS := hS.perm (.cons _ (.cons _ (.cons _ (.cons _ (.cons _ (.cons _ (.swap _ _ _)))))))
 replace hS := hS.perm (.cons _ (.cons _ (.cons _ (.cons _ (.cons _ (.swap _ _ _))))))
 replace hS := hS.perm (.cons _ (.cons _ (.cons _ (.cons _ (.swap _ _ _)))))
 replace hS := hS.perm (.cons _ (.cons _ (.cons _ (.swap _ _ _))))
 replace hS := hS.perm (.cons _ (.cons _ (.swap _ _ _)))
 replace hS := hS.perm (.cons _ (.swap _ _ _))
 replace hS := hS.perm (.cons _ (.cons _ (.cons _ (.cons _ (.cons _ (.cons _ (.cons _ (.cons _ (.swap _ _ _)))))))))
 replace hS := hS.perm (.cons _ (.cons _ (.cons _ (.cons _ (.cons _ (.cons _ (.cons _ (.swap _ _ _))))))))
 replace hS := hS.perm (.cons _ (.cons _ (.cons _ (.cons _ (.cons _ (.cons _ (.swap _ _ _)))))))
 replace hS := hS.perm (.cons _ (.cons _ (.cons _ (.cons _ (.cons _ (.swap _ _ _))))))
 replace hS := hS.perm (.cons _ (.cons _ (.cons _ (.cons _ (.swap _ _ _)))))
 replace hS := hS.perm (.cons _ (.cons _ (.cons _ (.swap _ _ _))))
 replace hS := hS.perm (.cons _ (.cons _ (.swap _ _ _)))
 replace hS := hS.perm (.cons _ (.cons _ (.cons _ (.cons _ (.cons _ (.cons _ (.cons _ (.cons _ (.cons _ (.swap _ _ _))))))))))
 replace hS := hS.perm (.cons _ (.cons _ (.cons _ (.cons _ (.cons _ (.cons _ (.cons _ (.cons _ (.swap _ _ _)))))))))
 replace hS := hS.perm (.cons _ (.cons _ (.cons _ (.cons _ (.cons _ (.cons _ (.cons _ (.swap _ _ _))))))))
 replace hS := hS.perm (.cons _ (.cons _ (.cons _ (.cons _ (.cons _ (.cons _ (.swap _ _ _)))))))
 replace hS := hS.perm (.cons _ (.cons _ (.cons _ (.cons _ (.cons _ (.swap _ _ _))))))
 replace hS := hS.perm (.cons _ (.cons _ (.cons _ (.cons _ (.swap _ _ _)))))
 replace hS := hS.perm (.cons _ (.cons _ (.cons _ (.swap _ _ _))))
 replace hS : St _ [_] [_, _, _, _, _, _, _, _, _, _, _, _, _] _ := hS
 refine wpl_ef hF hS rfl (ef_callx fn50 rfl (List.Perm.refl _) (by exact (dmount_ct _ _ _ _ _ _ _ hz95 (.inr (by simp)) hD89))) ?_
 clear hF hS; rintro _ _ _ a w ⟨_, _, rfl, rfl, ⟨rfl, rfl, qa97, qb98, qc99, qd100, rfl, hD101⟩⟩ hF hS
 replace hS : St _ [_] [_, _, _, _, _, _, _, _, _, _, _, _, _] _ := hS
 refine wpList_nil ?_
 rw [hmt] at hD101
 refine hK20 _ _ ?_
 clear hK20
 refine wp_seq_k ?_; intro K21 hK21
 refine regl ?_
 refine wpl_sq hF hS (sq rfl (q_move rfl) <|
   sq_end) ?_
 clear hF hS; intro a w hF hS
 refine wpl_ef hF hS rfl (ef_callx fn31 rfl (List.Perm.refl _) (by exact (lopen_ct _ _ (by assumption) _ _ hg0 hD101))) ?_
 clear hF hS; rintro _ _ _ a w ⟨_, _, rfl, rfl, ⟨rfl, bl103, jb104, fv105, qa106, qb107, qc108, qd109, ua110, ub111, uc112, ud113, rfl, rfl, hJ114, hD115⟩⟩ hF hS
 replace hS : St _ [_] [_, _, _, _, _, _, _, _, _, _, _, _, _, _, _, _, _, _, _] _ := hS
 refine wpl_sq hF hS (sq rfl (q_move rfl) <|
   sq rfl (q_extract rfl rfl) <|
   sq rfl (q_extract rfl rfl) <|
   sq rfl (q_assign rfl) <|
   sq rfl (q_assign rfl) <|
   sq_end) ?_
 clear hF hS; intro a w hF hS
 refine wpList_nil ?_
 rw [hop] at hJ114
 rw [hop, Lg.tk2] at hS
 (try dsimp only at hS)
 refine hK21 _ _ ?_
 clear hK21
 refine wp_seq_k ?_; intro K22 hK22
 refine regl ?_
 refine wpl_sq hF hS (sq rfl (q_move rfl) <|
   sq rfl (q_dt (q_eqi rfl rfl) (by decide)) <|
   sq rfl (q_move rfl) <|
   sq_go 137 rfl rfl rfl (q_move rfl) <|
   sq_go 137 rfl rfl rfl (q_dt (q_eqi rfl rfl) (by decide)) <|
   sq rfl (q_pick_t rfl rfl) <|
   sq rfl (q_move rfl) <|
   sq_go 141 rfl rfl rfl (q_move rfl) <|
   sq_go 141 rfl rfl rfl (q_dt (q_eqi rfl rfl) (by decide)) <|
   sq rfl (q_pick_t rfl rfl) <|
   sq rfl (q_move rfl) <|
   sq_go 145 rfl rfl rfl (q_move rfl) <|
   sq_go 145 rfl rfl rfl (q_nepn_t ty45 rfl rfl) <|
   sq rfl (q_pick_t rfl rfl) <|
   sq rfl (q_move rfl) <|
   sq_go 149 rfl rfl rfl (q_move rfl) <|
   sq_end) ?_
 clear hF hS; intro a w hF hS
 refine wpl_efg hF hS (wanted_go 149 rfl rfl) rfl (ef_call fn26 rfl (fun w hS => facts_ct _ _ _ _ (by decide) w (own_box hS 0 rfl) (own_slK (hl := Lg.fcC_len) (h1 := Lg.fcC_one) (hS.own _ (List.mem_of_getElem? (i := 1) rfl)).1 rfl (by first | omega | (simp; done)) (by assumption)))) ?_
 clear hF hS; rintro v122 _ _ a w ⟨_, _, rfl, rfl, ⟨rfl, rfl⟩⟩ hF hS
 replace hS : St _ [_] [_, _, _, _, _, _, _, _, _, _, _, _, _, _, _, _, _, _, _, _] _ := hS
 refine wpl_sq hF hS (sq_go 149 rfl rfl rfl (q_buildS1 ty24 3 kQ rfl rfl (oc_cons rfl (oc_cons rfl (oc_cons rfl oc_nil))) rfl rfl) <|
   sq_go 149 rfl rfl rfl (q_buildS1 ty24 3 kQ rfl rfl (oc_cons rfl (oc_cons rfl (oc_cons rfl oc_nil))) rfl rfl) <|
   sq_end) ?_
 clear hF hS; intro a w hF hS
 refine wpl_efg hF hS (wanted_go 149 rfl rfl) rfl (ef_bsliceC ty26 ty24 [[_, _, _], [_, _, _]] rfl rfl (by simp) (oc2_cons (oc_cons rfl (oc_cons rfl (oc_cons rfl oc_nil))) (oc2_cons (oc_cons rfl (oc_cons rfl (oc_cons rfl oc_nil))) oc2_nil)) (by decide) rfl rfl) ?_
 clear hF hS; rintro v124 _ _ a w ⟨rfl, rfl⟩ hF hS
 replace hS : St _ [_] [_, _, _, _, _, _, _, _, _, _, _, _, _, _, _, _, _, _, _, _, _] _ := hS
 refine wpl_sq hF hS (sq_go 149 rfl rfl rfl (q_call fn32 rfl (fun w hS => samef_t _ _ _ w (own_slK (hl := Lg.fcC_len) (h1 := Lg.fcC_one) (xs := [Lg.x1, Lg.x2]) (hS.own _ (List.mem_of_getElem? (i := 1) rfl)).1 rfl (by first | omega | (simp; done) | decide) hfk2) (own_slK (hl := Lg.fcC_len) (h1 := Lg.fcC_one) (xs := [Lg.x1, Lg.x2]) (hS.own _ (List.mem_of_getElem? (i := 0) rfl)).1 rfl (by first | omega | (simp; done) | decide) hfk2)) (fun _ _ _ h => h)) <|
   sq rfl (q_pick_t rfl rfl) <|
   sq rfl (q_assign rfl) <|
   sq_end) ?_
 clear hF hS; intro a w hF hS
 refine wpList_nil ?_
 refine hK22 _ _ ?_
 clear hK22
 refine wp_ret ?_
 exact fn_ret (rs := [.tmp 0]) rfl hF hS (vs := [_]) ⟨rfl, trivial⟩ zQ zQ (rfl)
end Go.Proofs.YtngcjojijaknnaaGreatDoor
