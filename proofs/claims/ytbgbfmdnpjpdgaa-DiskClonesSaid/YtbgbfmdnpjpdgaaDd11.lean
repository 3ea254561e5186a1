/- A text of a proof over this seat: walks over the program's functions and the plain laws that they need. -/
import Derived.Test.YtbgbfmdnpjpdgaaDd10
import Derived.Test.YtbgbfmdnpjpdgaaDkA
import Derived.Test.YtbgbfmdnpjpdgaaFwB
set_option linter.all false
namespace Go.Proofs.Ytbgbfmdnpjpdgaa
open Go.Fw
theorem fn18 : FnOk Try.prog 18 := ⟨_, Try.func18, rfl, by kernel_rfl⟩
theorem fn28 : FnOk Try.prog 28 := ⟨_, Try.func28, rfl, by kernel_rfl⟩

theorem dupt_ct (h : Dk.Hd) (S : Dk.Dsk) (hu : (!S.off) = true) (w0 : World) (zsr : List PH) {r1 r2 r3 r4 : Res} (hD : DD h S r1 r2 r3 r4) : Cx Try.prog 27 [.pointer (some ⟨h.b, 0, none⟩)] w0 zsr [r1, r2, r3, r4] (DDR h S (.bool true)) := by
 have := dup_ct h S w0 zsr hD
 rw [hu] at this
 exact this

theorem dupf_ct (h : Dk.Hd) (S : Dk.Dsk) (hu : (!S.off) = false) (w0 : World) (zsr : List PH) {r1 r2 r3 r4 : Res} (hD : DD h S r1 r2 r3 r4) : Cx Try.prog 27 [.pointer (some ⟨h.b, 0, none⟩)] w0 zsr [r1, r2, r3, r4] (DDR h S (.bool false)) := by
 have := dup_ct h S w0 zsr hD
 rw [hu] at this
 exact this

set_option maxRecDepth 4000 in
set_option maxHeartbeats 2000000 in
theorem sanity_ct (w : World) : Ct Try.prog 9 [] w (fun r _ _ => r = .bool true) := by
 refine fn_enter Try.func9 rfl Try.ntmps9 (Nat.le_of_ble_eq_true rfl) fun a hF hS => ?_
 refine wp_seq_k ?_; intro K1 hK1
 refine reg hF hS (sq rfl (q_assign rfl) <|
   sq_end) ?_
 clear hF hS; intro a w hF hS
 refine hK1 _ _ ?_
 clear hK1
 refine wp_seq_k ?_; intro K2 hK2
 refine regl ?_
 refine wpl_ef hF hS rfl (ef_call fn14 rfl (fun w hS => dnew_ct 2 (by decide) w )) ?_
 clear hF hS; rintro _ _ _ a w ⟨_, _, rfl, rfl, ⟨rfl, hh2, qa3, qb4, qc5, qd6, rfl, rfl, hD7⟩⟩ hF hS
 replace hS : St _ [] [_, _, _, _] _ := hS
 refine wpl_sq hF hS (sq rfl (q_move rfl) <|
   sq rfl (q_extract rfl rfl) <|
   sq rfl (q_extract rfl rfl) <|
   sq rfl (q_assign rfl) <|
   sq rfl (q_assign rfl) <|
   sq_end) ?_
 clear hF hS; intro a w hF hS
 refine wpList_nil ?_
 have hq0 : DD hh2 Dk.q0 _ _ _ _ := hD7
 refine hK2 _ _ ?_
 clear hK2
 refine wp_seq_k ?_; intro K3 hK3
 refine wp_seq_k ?_; intro K4 hK4
 refine reg hF hS (sq rfl (q_move rfl) <|
   sq rfl (q_nf (q_nei rfl rfl) (by decide)) <|
   sq rfl (q_move rfl) <|
   sq_go 32 rfl rfl rfl (q_move rfl) <|
   sq_go 32 rfl rfl rfl (q_eqpn_f ty24 rfl rfl) <|
   sq rfl (q_pick_f rfl rfl) <|
   sq_end) ?_
 clear hF hS; intro a w hF hS
 refine hK4 _ _ ?_
 clear hK4
 refine wp_if hF rfl (fun h => absurd h (by simp)) (fun _ => ?_)
 refine wp_skip ?_
 refine hK3 _ _ ?_
 clear hK3
 refine wp_seq_k ?_; intro K5 hK5
 refine regl ?_
 refine wpl_sq hF hS (sq rfl (q_move rfl) <|
   sq rfl (q_call fn18 rfl (fun w hS => full_ct 97 w ) (fun _ _ _ h => h)) <|
   sq_end) ?_
 clear hF hS; intro a w hF hS
 refine wpl_ef hF hS rfl (ef_callx fn17 rfl (List.Perm.refl _) (by exact (dwrite_ct _ _ _ (by omega) _ _ _  hq0))) ?_
 clear hF hS; rintro _ _ _ a w ⟨_, _, rfl, rfl, ⟨rfl, rfl, qa13, qb14, qc15, qd16, rfl, hD17⟩⟩ hF hS
 replace hS : St _ [] [_, _, _, _] _ := hS
 refine wpl_sq hF hS (sq rfl (q_assign rfl) <|
   sq_end) ?_
 clear hF hS; intro a w hF hS
 refine wpList_nil ?_
 have hq1 : DD hh2 Dk.q1 _ _ _ _ := hD17
 rw [show (Dk.write Dk.q0 0 (List.replicate 64 97)).2 = 0 from Dk.e1] at hF
 refine hK5 _ _ ?_
 clear hK5
 refine wp_seq_k ?_; intro K6 hK6
 refine regl ?_
 refine wpl_sq hF hS (sq rfl (q_move rfl) <|
   sq_end) ?_
 clear hF hS; intro a w hF hS
 refine wpl_ef hF hS rfl (ef_callx fn16 rfl (List.Perm.refl _) (by exact (dread_ct _ _ _ (by omega) _ _  hq1))) ?_
 clear hF hS; rintro _ _ _ a w ⟨_, _, rfl, rfl, ⟨rfl, rfl, qa19, qb20, qc21, qd22, rfl, hD23⟩⟩ hF hS
 replace hS : St _ [] [_, _, _, _] _ := hS
 refine wpl_sq hF hS (sq rfl (q_move rfl) <|
   sq rfl (q_extract rfl rfl) <|
   sq rfl (q_extract rfl rfl) <|
   sq rfl (q_assign rfl) <|
   sq rfl (q_assign rfl) <|
   sq_end) ?_
 clear hF hS; intro a w hF hS
 refine wpList_nil ?_
 rw [show Dk.read Dk.q1 0 = (Dk.a64, 0) from Dk.r1] at hF; (try dsimp only at hF)
 refine hK6 _ _ ?_
 clear hK6
 refine wp_seq_k ?_; intro K7 hK7
 refine regl ?_
 refine wpl_sq hF hS (sq rfl (q_move rfl) <|
   sq_end) ?_
 clear hF hS; intro a w hF hS
 refine wpl_ef hF hS rfl (ef_callx fn15 rfl (List.Perm.refl _) (by exact (dimage_ct _ _ _ _  hD23))) ?_
 clear hF hS; rintro v24 _ _ a w ⟨_, _, rfl, rfl, ⟨rfl, qa25, qb26, qc27, qd28, rfl, hD29⟩⟩ hF hS
 replace hS : St _ [] [_, _, _, _, _] _ := hS
 refine wpl_sq hF hS (sq rfl (q_assign rfl) <|
   sq_end) ?_
 clear hF hS; intro a w hF hS
 refine wpList_nil ?_
 rw [Dk.i1] at hS
 refine hK7 _ _ ?_
 clear hK7
 refine wp_seq_k ?_; intro K8 hK8
 refine regl ?_
 refine wpl_sq hF hS (sq rfl (q_move rfl) <|
   sq_end) ?_
 clear hF hS; intro a w hF hS
 replace hS := hS.perm (.swap _ _ _)
 replace hS := hS.perm (.cons _ (.swap _ _ _))
 replace hS := hS.perm (.cons _ (.cons _ (.swap _ _ _)))
 replace hS := hS.perm (.cons _ (.cons _ (.cons _ (.swap _ _ _))))
 replace hS : St _ [] [_, _, _, _, _] _ := hS
 refine wpl_ef hF hS rfl (ef_callx fn22 rfl (List.Perm.refl _) (by exact (dpending_ct _ _ _ _  hD29))) ?_
 clear hF hS; rintro v31 _ _ a w ⟨_, _, rfl, rfl, ⟨rfl, qa32, qb33, qc34, qd35, rfl, hD36⟩⟩ hF hS
 replace hS : St _ [] [_, _, _, _, _, _] _ := hS
 refine wpl_sq hF hS (sq rfl (q_assign rfl) <|
   sq_end) ?_
 clear hF hS; intro a w hF hS
 refine wpList_nil ?_
 rw [Dk.p1] at hS
 refine hK8 _ _ ?_
 clear hK8
 refine wp_seq_k ?_; intro K9 hK9
 refine regl ?_
 refine wpl_sq hF hS (sq rfl (q_move rfl) <|
   sq_end) ?_
 clear hF hS; intro a w hF hS
 replace hS := hS.perm (.swap _ _ _)
 replace hS := hS.perm (.cons _ (.swap _ _ _))
 replace hS := hS.perm (.cons _ (.cons _ (.swap _ _ _)))
 replace hS := hS.perm (.cons _ (.cons _ (.cons _ (.swap _ _ _))))
 replace hS : St _ [] [_, _, _, _, _, _] _ := hS
 refine wpl_ef hF hS rfl (ef_callx fn28 rfl (List.Perm.refl _) (by exact (dclone_ct _ _ _ _  hD36))) ?_
 clear hF hS; rintro _ _ _ a w ⟨_, _, rfl, rfl, ⟨rfl, hh39, pa40, pb41, pc42, pd43, qa44, qb45, qc46, qd47, rfl, rfl, hE48, hD49⟩⟩ hF hS
 replace hS : St _ [] [_, _, _, _, _, _, _, _, _, _] _ := hS
 refine wpl_sq hF hS (sq rfl (q_assign rfl) <|
   sq_end) ?_
 clear hF hS; intro a w hF hS
 refine wpList_nil ?_
 refine hK9 _ _ ?_
 clear hK9
 refine wp_seq_k ?_; intro K10 hK10
 refine regl ?_
 refine wpl_sq hF hS (sq rfl (q_move rfl) <|
   sq_end) ?_
 clear hF hS; intro a w hF hS
 refine wpl_ef hF hS rfl (ef_bsliceA ty31 ty3 rfl rfl oQ (by decide) rfl rfl) ?_
 clear hF hS; rintro v54 _ _ a w ⟨rfl, rfl⟩ hF hS
 replace hS : St _ [] [_, _, _, _, _, _, _, _, _, _, _] _ := hS
 obtain ⟨z56, hz57, hS⟩ := St.freezeV (h0 := fun _ => rfl) (f := vi) (p := fun x => -9223372036854775808 ≤ x ∧ x ≤ 9223372036854775807) (xs := [3]) hS (by first | rfl | (simp; done)) (by first | decide | omega | (simp; omega)) (by decide)
 replace hS := hS.perm (.cons _ (.cons _ (.cons _ (.swap _ _ _))))
 replace hS := hS.perm (.cons _ (.cons _ (.swap _ _ _)))
 replace hS := hS.perm (.cons _ (.swap _ _ _))
 replace hS := hS.perm (.swap _ _ _)
 replace hS := hS.perm (.cons _ (.cons _ (.cons _ (.cons _ (.swap _ _ _)))))
 replace hS := hS.perm (.cons _ (.cons _ (.cons _ (.swap _ _ _))))
 replace hS := hS.perm (.cons _ (.cons _ (.swap _ _ _)))
 replace hS := hS.perm (.cons _ (.swap _ _ _))
 replace hS := hS.perm (.cons _ (.cons _ (.cons _ (.cons _ (.cons _ (.swap _ _ _))))))
 replace hS := hS.perm (.cons _ (.cons _ (.cons _ (.cons _ (.swap _ _ _)))))
 replace hS := hS.perm (.cons _ (.cons _ (.cons _ (.swap _ _ _))))
 replace hS := hS.perm (.cons _ (.cons _ (.swap _ _ _)))
 replace hS := hS.perm (.cons _ (.cons _ (.cons _ (.cons _ (.cons _ (.cons _ (.swap _ _ _)))))))
 replace hS := hS.perm (.cons _ (.cons _ (.cons _ (.cons _ (.cons _ (.swap _ _ _))))))
 replace hS := hS.perm (.cons _ (.cons _ (.cons _ (.cons _ (.swap _ _ _)))))
 replace hS := hS.perm (.cons _ (.cons _ (.cons _ (.swap _ _ _))))
 replace hS : St _ [_] [_, _, _, _, _, _, _, _, _, _] _ := hS
 refine wpl_ef hF hS rfl (ef_callx fn26 rfl (List.Perm.refl _) (by exact (dmount_ct _ _ _ _ _ _ _ hz57 (.inr (by simp)) hD49))) ?_
 clear hF hS; rintro _ _ _ a w ⟨_, _, rfl, rfl, ⟨rfl, rfl, qa59, qb60, qc61, qd62, rfl, hD63⟩⟩ hF hS
 replace hS : St _ [_] [_, _, _, _, _, _, _, _, _, _] _ := hS
 refine wpList_nil ?_
 have hq2 : DD hh2 Dk.q2 _ _ _ _ := hD63
 refine hK10 _ _ ?_
 clear hK10
 refine wp_seq_k ?_; intro K11 hK11
 refine regl ?_
 refine wpl_sq hF hS (sq rfl (q_move rfl) <|
   sq_end) ?_
 clear hF hS; intro a w hF hS
 refine wpl_ef hF hS rfl (ef_callx fn16 rfl (List.Perm.refl _) (by exact (dread_ct _ _ _ (by omega) _ _  hq2))) ?_
 clear hF hS; rintro _ _ _ a w ⟨_, _, rfl, rfl, ⟨rfl, rfl, qa65, qb66, qc67, qd68, rfl, hD69⟩⟩ hF hS
 replace hS : St _ [_] [_, _, _, _, _, _, _, _, _, _] _ := hS
 refine wpl_sq hF hS (sq rfl (q_move rfl) <|
   sq rfl (q_extract rfl rfl) <|
   sq rfl (q_extract rfl rfl) <|
   sq rfl (q_assign rfl) <|
   sq rfl (q_assign rfl) <|
   sq_end) ?_
 clear hF hS; intro a w hF hS
 refine wpList_nil ?_
 rw [show Dk.read Dk.q2 0 = ([97, 97, 97] ++ Dk.z64.drop 3, 0) from Dk.r2] at hF; (try dsimp only at hF)
 refine hK11 _ _ ?_
 clear hK11
 refine wp_seq_k ?_; intro K12 hK12
 refine regl ?_
 refine wpl_sq hF hS (sq rfl (q_move rfl) <|
   sq rfl (q_call fn18 rfl (fun w hS => full_ct 97 w ) (fun _ _ _ h => h)) <|
   sq_end) ?_
 clear hF hS; intro a w hF hS
 refine wpl_ef hF hS rfl (ef_callx fn17 rfl (List.Perm.refl _) (by exact (dwrite_ct _ _ _ (by omega) _ _ _  hD69))) ?_
 clear hF hS; rintro _ _ _ a w ⟨_, _, rfl, rfl, ⟨rfl, rfl, qa71, qb72, qc73, qd74, rfl, hD75⟩⟩ hF hS
 replace hS : St _ [_] [_, _, _, _, _, _, _, _, _, _] _ := hS
 refine wpList_nil ?_
 have hq3 : DD hh2 Dk.q3 _ _ _ _ := hD75
 refine hK12 _ _ ?_
 clear hK12
 refine wp_seq_k ?_; intro K13 hK13
 refine regl ?_
 refine wpl_sq hF hS (sq rfl (q_move rfl) <|
   sq_end) ?_
 clear hF hS; intro a w hF hS
 refine wpl_ef hF hS rfl (ef_callx fn25 rfl (List.Perm.refl _) (by exact (dflush_ct _ _ _ _  hq3))) ?_
 clear hF hS; rintro _ _ _ a w ⟨_, _, rfl, rfl, ⟨rfl, rfl, qa77, qb78, qc79, qd80, rfl, hD81⟩⟩ hF hS
 replace hS : St _ [_] [_, _, _, _, _, _, _, _, _, _] _ := hS
 refine wpl_sq hF hS (sq rfl (q_assign rfl) <|
   sq_end) ?_
 clear hF hS; intro a w hF hS
 refine wpList_nil ?_
 have hq4 : DD hh2 Dk.q4 _ _ _ _ := hD81
 rw [show (Dk.flush Dk.q3).2 = 0 from Dk.e4] at hF
 refine hK13 _ _ ?_
 clear hK13
 refine wp_seq_k ?_; intro K14 hK14
 refine regl ?_
 refine wpl_sq hF hS (sq rfl (q_move rfl) <|
   sq_end) ?_
 clear hF hS; intro a w hF hS
 refine wpl_ef hF hS rfl (ef_callx fn19 rfl (List.Perm.refl _) (by exact (drot_ct _ _ _ _ (by omega) (by omega) _ _  hq4))) ?_
 clear hF hS; rintro _ _ _ a w ⟨_, _, rfl, rfl, ⟨rfl, rfl, qa83, qb84, qc85, qd86, rfl, hD87⟩⟩ hF hS
 replace hS : St _ [_] [_, _, _, _, _, _, _, _, _, _] _ := hS
 refine wpl_sq hF hS (sq rfl (q_assign rfl) <|
   sq_end) ?_
 clear hF hS; intro a w hF hS
 refine wpList_nil ?_
 have hq5 : DD hh2 Dk.q5 _ _ _ _ := hD87
 rw [show (Dk.rot Dk.q4 1 0).2 = 0 from Dk.e5] at hF
 refine hK14 _ _ ?_
 clear hK14
 refine wp_seq_k ?_; intro K15 hK15
 refine regl ?_
 refine wpl_sq hF hS (sq rfl (q_move rfl) <|
   sq_end) ?_
 clear hF hS; intro a w hF hS
 refine wpl_ef hF hS rfl (ef_callx fn16 rfl (List.Perm.refl _) (by exact (dread_ct _ _ _ (by omega) _ _  hq5))) ?_
 clear hF hS; rintro _ _ _ a w ⟨_, _, rfl, rfl, ⟨rfl, rfl, qa89, qb90, qc91, qd92, rfl, hD93⟩⟩ hF hS
 replace hS : St _ [_] [_, _, _, _, _, _, _, _, _, _] _ := hS
 refine wpl_sq hF hS (sq rfl (q_move rfl) <|
   sq rfl (q_extract rfl rfl) <|
   sq rfl (q_extract rfl rfl) <|
   sq rfl (q_assign rfl) <|
   sq rfl (q_assign rfl) <|
   sq_end) ?_
 clear hF hS; intro a w hF hS
 refine wpList_nil ?_
 rw [show Dk.read Dk.q5 1 = (96 :: List.replicate 63 97, 0) from Dk.r5] at hF; (try dsimp only at hF)
 refine hK15 _ _ ?_
 clear hK15
 refine wp_seq_k ?_; intro K16 hK16
 refine regl ?_
 refine wpl_sq hF hS (sq rfl (q_move rfl) <|
   sq_end) ?_
 clear hF hS; intro a w hF hS
 refine wpl_ef hF hS rfl (ef_callx fn20 rfl (List.Perm.refl _) (by exact (dwear_ct _ _ _ (by omega) _ _  hD93))) ?_
 clear hF hS; rintro _ _ _ a w ⟨_, _, rfl, rfl, ⟨rfl, rfl, qa95, qb96, qc97, qd98, rfl, hD99⟩⟩ hF hS
 replace hS : St _ [_] [_, _, _, _, _, _, _, _, _, _] _ := hS
 refine wpl_sq hF hS (sq rfl (q_assign rfl) <|
   sq_end) ?_
 clear hF hS; intro a w hF hS
 refine wpList_nil ?_
 have hq6 : DD hh2 Dk.q6 _ _ _ _ := hD99
 rw [show (Dk.wear Dk.q5 0).2 = 0 from Dk.e6] at hF
 refine hK16 _ _ ?_
 clear hK16
 refine wp_seq_k ?_; intro K17 hK17
 refine regl ?_
 refine wpl_sq hF hS (sq rfl (q_move rfl) <|
   sq_end) ?_
 clear hF hS; intro a w hF hS
 refine wpl_ef hF hS rfl (ef_callx fn30 rfl (List.Perm.refl _) (by exact (dtrip_ct _ _ _ (by omega) _ _  hq6))) ?_
 clear hF hS; rintro _ _ _ a w ⟨_, _, rfl, rfl, ⟨rfl, rfl, qa101, qb102, qc103, qd104, rfl, hD105⟩⟩ hF hS
 replace hS : St _ [_] [_, _, _, _, _, _, _, _, _, _] _ := hS
 refine wpList_nil ?_
 have hq7 : DD hh2 Dk.q7 _ _ _ _ := hD105
 refine hK17 _ _ ?_
 clear hK17
 refine wp_seq_k ?_; intro K18 hK18
 refine regl ?_
 refine wpl_sq hF hS (sq rfl (q_move rfl) <|
   sq rfl (q_call fn18 rfl (fun w hS => full_ct 98 w ) (fun _ _ _ h => h)) <|
   sq_end) ?_
 clear hF hS; intro a w hF hS
 refine wpl_ef hF hS rfl (ef_callx fn17 rfl (List.Perm.refl _) (by exact (dwrite_ct _ _ _ (by omega) _ _ _  hq7))) ?_
 clear hF hS; rintro _ _ _ a w ⟨_, _, rfl, rfl, ⟨rfl, rfl, qa107, qb108, qc109, qd110, rfl, hD111⟩⟩ hF hS
 replace hS : St _ [_] [_, _, _, _, _, _, _, _, _, _] _ := hS
 refine wpl_sq hF hS (sq rfl (q_assign rfl) <|
   sq_end) ?_
 clear hF hS; intro a w hF hS
 refine wpList_nil ?_
 have hq8 : DD hh2 Dk.q8 _ _ _ _ := hD111
 rw [show (Dk.write Dk.q7 0 (List.replicate 64 98)).2 = 0 from Dk.e8] at hF
 refine hK18 _ _ ?_
 clear hK18
 refine wp_seq_k ?_; intro K19 hK19
 refine regl ?_
 refine wpl_sq hF hS (sq rfl (q_move rfl) <|
   sq_end) ?_
 clear hF hS; intro a w hF hS
 refine wpl_ef hF hS rfl (ef_callx fn25 rfl (List.Perm.refl _) (by exact (dflush_ct _ _ _ _  hq8))) ?_
 clear hF hS; rintro _ _ _ a w ⟨_, _, rfl, rfl, ⟨rfl, rfl, qa113, qb114, qc115, qd116, rfl, hD117⟩⟩ hF hS
 replace hS : St _ [_] [_, _, _, _, _, _, _, _, _, _] _ := hS
 refine wpl_sq hF hS (sq rfl (q_assign rfl) <|
   sq_end) ?_
 clear hF hS; intro a w hF hS
 refine wpList_nil ?_
 have hq9 : DD hh2 Dk.q9 _ _ _ _ := hD117
 rw [show (Dk.flush Dk.q8).2 = 23 from Dk.e9] at hF
 refine hK19 _ _ ?_
 clear hK19
 refine wp_seq_k ?_; intro K20 hK20
 refine regl ?_
 refine wpl_sq hF hS (sq rfl (q_move rfl) <|
   sq_end) ?_
 clear hF hS; intro a w hF hS
 refine wpl_ef hF hS rfl (ef_callx fn16 rfl (List.Perm.refl _) (by exact (dread_ct _ _ _ (by omega) _ _  hq9))) ?_
 clear hF hS; rintro _ _ _ a w ⟨_, _, rfl, rfl, ⟨rfl, rfl, qa119, qb120, qc121, qd122, rfl, hD123⟩⟩ hF hS
 replace hS : St _ [_] [_, _, _, _, _, _, _, _, _, _] _ := hS
 refine wpl_sq hF hS (sq rfl (q_move rfl) <|
   sq rfl (q_extract rfl rfl) <|
   sq rfl (q_extract rfl rfl) <|
   sq rfl (q_assign rfl) <|
   sq rfl (q_assign rfl) <|
   sq_end) ?_
 clear hF hS; intro a w hF hS
 refine wpList_nil ?_
 rw [show Dk.read Dk.q9 0 = ([], 23) from Dk.r9] at hF; (try dsimp only at hF)
 refine hK20 _ _ ?_
 clear hK20
 refine wp_seq_k ?_; intro K21 hK21
 refine reg hF hS (sq rfl (q_call fn14 rfl (fun w hS => dnewx_ct _ (by decide) w ) (fun _ _ _ h => h)) <|
   sq rfl (q_move rfl) <|
   sq rfl (q_extract rfl rfl) <|
   sq rfl (q_extract rfl rfl) <|
   sq rfl (q_assign rfl) <|
   sq rfl (q_assign rfl) <|
   sq_end) ?_
 clear hF hS; intro a w hF hS
 refine hK21 _ _ ?_
 clear hK21
 refine wp_seq_k ?_; intro K22 hK22
 refine wp_seq_k ?_; intro K23 hK23
 refine reg hF hS (sq rfl (q_move rfl) <|
   sq rfl (q_eqpn_f ty24 rfl rfl) <|
   sq rfl (q_move rfl) <|
   sq_go 90 rfl rfl rfl (q_move rfl) <|
   sq_go 90 rfl rfl rfl (q_len_row ty39 9 rfl rfl) <|
   sq_go 90 rfl rfl rfl (q_nf (q_nei rfl rfl) (by decide)) <|
   sq rfl (q_pick_f rfl rfl) <|
   sq rfl (q_move rfl) <|
   sq_go 95 rfl rfl rfl (q_move rfl) <|
   sq_go 95 rfl rfl rfl (q_len_row ty31 8 rfl rfl) <|
   sq_go 95 rfl rfl rfl (q_nf (q_nei rfl rfl) (by decide)) <|
   sq rfl (q_pick_f rfl rfl) <|
   sq rfl (q_move rfl) <|
   sq_go 100 rfl rfl rfl (q_move rfl) <|
   sq_go 100 rfl rfl rfl (q_len_s ty9 rfl) <|
   sq_go 100 rfl rfl rfl (q_nf (q_nei rfl rfl) (by decide)) <|
   sq rfl (q_pick_f rfl rfl) <|
   sq_end) ?_
 clear hF hS; intro a w hF hS
 refine hK23 _ _ ?_
 clear hK23
 refine wp_if hF rfl (fun h => absurd h (by simp)) (fun _ => ?_)
 refine wp_skip ?_
 refine hK22 _ _ ?_
 clear hK22
 refine wp_seq_k ?_; intro K24 hK24
 refine regl ?_
 refine wpl_sq hF hS (sq rfl (q_move rfl) <|
   sq_end) ?_
 clear hF hS; intro a w hF hS
 replace hS := hS.perm (.cons _ (.cons _ (.cons _ (.swap _ _ _))))
 replace hS := hS.perm (.cons _ (.cons _ (.swap _ _ _)))
 replace hS := hS.perm (.cons _ (.swap _ _ _))
 replace hS := hS.perm (.swap _ _ _)
 replace hS := hS.perm (.cons _ (.cons _ (.cons _ (.cons _ (.swap _ _ _)))))
 replace hS := hS.perm (.cons _ (.cons _ (.cons _ (.swap _ _ _))))
 replace hS := hS.perm (.cons _ (.cons _ (.swap _ _ _)))
 replace hS := hS.perm (.cons _ (.swap _ _ _))
 replace hS := hS.perm (.cons _ (.cons _ (.cons _ (.cons _ (.cons _ (.swap _ _ _))))))
 replace hS := hS.perm (.cons _ (.cons _ (.cons _ (.cons _ (.swap _ _ _)))))
 replace hS := hS.perm (.cons _ (.cons _ (.cons _ (.swap _ _ _))))
 replace hS := hS.perm (.cons _ (.cons _ (.swap _ _ _)))
 replace hS := hS.perm (.cons _ (.cons _ (.cons _ (.cons _ (.cons _ (.cons _ (.swap _ _ _)))))))
 replace hS := hS.perm (.cons _ (.cons _ (.cons _ (.cons _ (.cons _ (.swap _ _ _))))))
 replace hS := hS.perm (.cons _ (.cons _ (.cons _ (.cons _ (.swap _ _ _)))))
 replace hS := hS.perm (.cons _ (.cons _ (.cons _ (.swap _ _ _))))
 replace hS : St _ [_] [_, _, _, _, _, _, _, _, _, _] _ := hS
 refine wpl_ef hF hS rfl (ef_callx fn16 rfl (List.Perm.refl _) (by exact (dread_ct _ _ _ (by omega) _ _  hE48))) ?_
 clear hF hS; rintro _ _ _ a w ⟨_, _, rfl, rfl, ⟨rfl, rfl, qa125, qb126, qc127, qd128, rfl, hD129⟩⟩ hF hS
 replace hS : St _ [_] [_, _, _, _, _, _, _, _, _, _] _ := hS
 refine wpl_sq hF hS (sq rfl (q_move rfl) <|
   sq rfl (q_extract rfl rfl) <|
   sq rfl (q_extract rfl rfl) <|
   sq rfl (q_assign rfl) <|
   sq rfl (q_assign rfl) <|
   sq_end) ?_
 clear hF hS; intro a w hF hS
 refine wpList_nil ?_
 rw [show Dk.read Dk.q1 0 = (Dk.a64, 0) from Dk.r1] at hF; (try dsimp only at hF)
 refine hK24 _ _ ?_
 clear hK24
 refine wp_seq_k ?_; intro K25 hK25
 refine regl ?_
 refine wpl_sq hF hS (sq rfl (q_move rfl) <|
   sq_end) ?_
 clear hF hS; intro a w hF hS
 replace hS := hS.perm (.cons _ (.cons _ (.cons _ (.swap _ _ _))))
 replace hS := hS.perm (.cons _ (.cons _ (.swap _ _ _)))
 replace hS := hS.perm (.cons _ (.swap _ _ _))
 replace hS := hS.perm (.swap _ _ _)
 replace hS := hS.perm (.cons _ (.cons _ (.cons _ (.cons _ (.swap _ _ _)))))
 replace hS := hS.perm (.cons _ (.cons _ (.cons _ (.swap _ _ _))))
 replace hS := hS.perm (.cons _ (.cons _ (.swap _ _ _)))
 replace hS := hS.perm (.cons _ (.swap _ _ _))
 replace hS := hS.perm (.cons _ (.cons _ (.cons _ (.cons _ (.cons _ (.swap _ _ _))))))
 replace hS := hS.perm (.cons _ (.cons _ (.cons _ (.cons _ (.swap _ _ _)))))
 replace hS := hS.perm (.cons _ (.cons _ (.cons _ (.swap _ _ _))))
 replace hS := hS.perm (.cons _ (.cons _ (.swap _ _ _)))
 replace hS := hS.perm (.cons _ (.cons _ (.cons _ (.cons _ (.cons _ (.cons _ (.swap _ _ _)))))))
 replace hS := hS.perm (.cons _ (.cons _ (.cons _ (.cons _ (.cons _ (.swap _ _ _))))))
 replace hS := hS.perm (.cons _ (.cons _ (.cons _ (.cons _ (.swap _ _ _)))))
 replace hS := hS.perm (.cons _ (.cons _ (.cons _ (.swap _ _ _))))
 replace hS : St _ [_] [_, _, _, _, _, _, _, _, _, _] _ := hS
 refine wpl_ef hF hS rfl (ef_callx fn23 rfl (List.Perm.refl _) (by exact (dworn_ct _ _ _ _  hD123))) ?_
 clear hF hS; rintro v130 _ _ a w ⟨_, _, rfl, rfl, ⟨rfl, qa131, qb132, qc133, qd134, rfl, hD135⟩⟩ hF hS
 replace hS : St _ [_] [_, _, _, _, _, _, _, _, _, _, _] _ := hS
 refine wpl_sq hF hS (sq rfl (q_assign rfl) <|
   sq_end) ?_
 clear hF hS; intro a w hF hS
 refine wpList_nil ?_
 rw [Dk.w9] at hS
 refine hK25 _ _ ?_
 clear hK25
 refine wp_seq_k ?_; intro K26 hK26
 refine reg hF hS (sq rfl (q_move rfl) <|
   sq rfl (q_dt (q_eqi rfl rfl) (by decide)) <|
   sq rfl (q_move rfl) <|
   sq_go 114 rfl rfl rfl (q_move rfl) <|
   sq_go 114 rfl rfl rfl (q_dt (q_eqi rfl rfl) (by decide)) <|
   sq rfl (q_pick_t rfl rfl) <|
   sq rfl (q_move rfl) <|
   sq_go 118 rfl rfl rfl (q_move rfl) <|
   sq_go 118 rfl rfl rfl (q_dt (q_eqi rfl rfl) (by decide)) <|
   sq rfl (q_pick_t rfl rfl) <|
   sq rfl (q_move rfl) <|
   sq_go 122 rfl rfl rfl (q_move rfl) <|
   sq_go 122 rfl rfl rfl (q_dt (q_eqi rfl rfl) (by decide)) <|
   sq rfl (q_pick_t rfl rfl) <|
   sq rfl (q_move rfl) <|
   sq_go 126 rfl rfl rfl (q_move rfl) <|
   sq_go 126 rfl rfl rfl (q_dt (q_eqi rfl rfl) (by decide)) <|
   sq rfl (q_pick_t rfl rfl) <|
   sq rfl (q_move rfl) <|
   sq_go 130 rfl rfl rfl (q_move rfl) <|
   sq_go 130 rfl rfl rfl (q_dt (q_eqi rfl rfl) (by decide)) <|
   sq rfl (q_pick_t rfl rfl) <|
   sq rfl (q_move rfl) <|
   sq_go 134 rfl rfl rfl (q_move rfl) <|
   sq_go 134 rfl rfl rfl (q_dt (q_eqi rfl rfl) (by decide)) <|
   sq rfl (q_pick_t rfl rfl) <|
   sq rfl (q_move rfl) <|
   sq_go 138 rfl rfl rfl (q_move rfl) <|
   sq_go 138 rfl rfl rfl (q_dt (q_eqi rfl rfl) (by decide)) <|
   sq rfl (q_pick_t rfl rfl) <|
   sq rfl (q_move rfl) <|
   sq_go 142 rfl rfl rfl (q_move rfl) <|
   sq_go 142 rfl rfl rfl (q_dt (q_eqi rfl rfl) (by decide)) <|
   sq rfl (q_pick_t rfl rfl) <|
   sq rfl (q_assign rfl) <|
   sq_end) ?_
 clear hF hS; intro a w hF hS
 refine hK26 _ _ ?_
 clear hK26
 refine wp_seq_k ?_; intro K27 hK27
 revert hS; revert hF; apply regJ (J := J12 (α0 := Res) (α1 := Res) (α2 := Res) (α3 := Res) (α4 := Res) (α5 := Res) (α6 := Res) (α7 := Res) (α8 := Res) (α9 := Res) (α10 := Res) (α11 := Res) 213 _ _ _ _ _) #[false, false, false, false, false, false, false, false, false, false, false, false, false, false, false, false, false, false, false, false, false, false, false, false, false, false, false, false, false, false, false, false, false, false, false, false, false, false, false, false, false, false, false, false, false, false, false, false, false, false, false, false, false, false, false, false, false, false, false, false, false, false, false, false, false, false, false, false] 68 mixed rfl rfl
 ·intro w hF hS
  refine goW_take 0 _ rfl kQ rfl hF (hS.keep sQ zQ) (q_move rfl) ?_
  clear hF; intro a hF
  refine goW_take 1 _ rfl kQ rfl hF (hS.keep sQ zQ) (q_move rfl) ?_
  clear hF; intro a hF
  refine goW_takeg 2 _ rfl (wanted_go 147 rfl rfl) kQ rfl hF (hS.keep sQ zQ) (q_move rfl) ?_
  clear hF; intro a hF
  refine goW_fork [3] kQ rfl ⟨?_, trivial⟩
  refine stepW_efg _ rfl (wanted_go 147 rfl rfl) rfl hF hS rfl (ef_qt (q_call fn18 rfl (fun w hS => full_ct 97 w ) (fun _ _ _ h => h))) ?_
  clear hF hS; rintro _ _ _ a w ⟨rfl, rfl, rfl⟩ hF hS
  refine ⟨⟨.inr (hS.keep sQ zQ), iQ, iQ, trivial⟩, ?_⟩
  refine goW_takeg 4 _ rfl (wanted_go 147 rfl rfl) kQ rfl hF (hS.keep sQ zQ) (q_dt (q_eqs rfl rfl) (by decide +kernel)) ?_
  clear hF; intro a hF
  refine goW_take 5 _ rfl kQ rfl hF (hS.keep sQ zQ) (q_pick_t rfl rfl) ?_
  clear hF; intro a hF
  refine goW_take 6 _ rfl kQ rfl hF (hS.keep sQ zQ) (q_move rfl) ?_
  clear hF; intro a hF
  refine goW_takeg 7 _ rfl (wanted_go 152 rfl rfl) kQ rfl hF (hS.keep sQ zQ) (q_move rfl) ?_
  clear hF; intro a hF
  refine goW_takeg 8 _ rfl (wanted_go 152 rfl rfl) kQ rfl hF (hS.keep sQ (sQ.n.n.n.n.n.n.n.n.n.n)) (q_idx_row ty39 ty9 0 rfl rfl rfl (by decide +kernel)) ?_
  clear hF; intro a hF
  refine goW_takeg 9 _ rfl (wanted_go 152 rfl rfl) kQ rfl hF (hS.keep sQ (sQ.n.n.n.n.n.n.n.n.n.n)) (q_ld_rowM ty9 0 default rfl rfl bQ rfl) ?_
  clear hF; intro a hF
  refine goW_fork [10] kQ rfl ⟨?_, trivial⟩
  refine stepW_efg _ rfl (wanted_go 152 rfl rfl) rfl hF hS rfl (ef_qt (q_call fn18 rfl (fun w hS => full_ct 0 w ) (fun _ _ _ h => h))) ?_
  clear hF hS; rintro _ _ _ a w ⟨rfl, rfl, rfl⟩ hF hS
  refine ⟨⟨.inr (hS.keep sQ (sQ.n.n.n.n.n.n.n.n.n.n)), .inr (hS.keep sQ (sQ.n.n.n.n.n.n.n.n.n.n)), .inr (hS.keep sQ zQ), iQ, iQ, .inr (hS.keep sQ zQ), .inr (hS.keep sQ zQ), iQ, iQ, trivial⟩, ?_⟩
  refine goW_takeg 11 _ rfl (wanted_go 152 rfl rfl) kQ rfl hF (hS.keep sQ zQ) (q_dt (q_eqs rfl rfl) (by decide +kernel)) ?_
  clear hF; intro a hF
  refine goW_take 12 _ rfl kQ rfl hF (hS.keep sQ zQ) (q_pick_t rfl rfl) ?_
  clear hF; intro a hF
  refine goW_take 13 _ rfl kQ rfl hF (hS.keep sQ zQ) (q_move rfl) ?_
  clear hF; intro a hF
  refine goW_takeg 14 _ rfl (wanted_go 159 rfl rfl) kQ rfl hF (hS.keep sQ zQ) (q_move rfl) ?_
  clear hF; intro a hF
  refine goW_takeg 15 _ rfl (wanted_go 159 rfl rfl) kQ rfl hF (hS.keep sQ (zQ.k.n.n.n.n.n.n.n.n.n)) (q_idx_row ty31 ty3 0 rfl rfl rfl (by decide +kernel)) ?_
  clear hF; intro a hF
  refine goW_takeg 16 _ rfl (wanted_go 159 rfl rfl) kQ rfl hF (hS.keep sQ (zQ.k.n.n.n.n.n.n.n.n.n)) (q_ld_rowM ty3 0 (0 : Int) rfl rfl bQ rfl) ?_
  clear hF; intro a hF
  refine goW_takeg 17 _ rfl (wanted_go 159 rfl rfl) kQ rfl hF (hS.keep sQ zQ) (q_dt (q_eqi rfl rfl) (by decide)) ?_
  clear hF; intro a hF
  refine goW_take 18 _ rfl kQ rfl hF (hS.keep sQ zQ) (q_pick_t rfl rfl) ?_
  clear hF; intro a hF
  refine goW_take 19 _ rfl kQ rfl hF (hS.keep sQ zQ) (q_move rfl) ?_
  clear hF; intro a hF
  refine goW_takeg 20 _ rfl (wanted_go 165 rfl rfl) kQ rfl hF (hS.keep sQ zQ) (q_move rfl) ?_
  clear hF; intro a hF
  refine goW_fork [21] kQ rfl ⟨?_, trivial⟩
  refine stepW_efg _ rfl (wanted_go 165 rfl rfl) rfl hF hS rfl (ef_qt (q_call fn18 rfl (fun w hS => full_ct 0 w ) (fun _ _ _ h => h))) ?_
  clear hF hS; rintro _ _ _ a w ⟨rfl, rfl, rfl⟩ hF hS
  refine ⟨⟨.inr (hS.keep sQ zQ), iQ, iQ, .inr (hS.keep sQ zQ), .inr (hS.keep sQ (zQ.k.n.n.n.n.n.n.n.n.n)), .inr (hS.keep sQ (zQ.k.n.n.n.n.n.n.n.n.n)), .inr (hS.keep sQ zQ), iQ, .inr (hS.keep sQ zQ), .inr (hS.keep sQ zQ), .inr (hS.keep sQ (sQ.n.n.n.n.n.n.n.n.n.n)), .inr (hS.keep sQ (sQ.n.n.n.n.n.n.n.n.n.n)), .inr (hS.keep sQ zQ), iQ, iQ, .inr (hS.keep sQ zQ), .inr (hS.keep sQ zQ), iQ, iQ, trivial⟩, ?_⟩
  refine goW_takeg 22 _ rfl (wanted_go 165 rfl rfl) kQ rfl hF (hS.keep sQ zQ) (q_sl_s_lo ty9 rfl rfl (by decide +kernel)) ?_
  clear hF; intro a hF
  refine goW_takeg 23 _ rfl (wanted_go 165 rfl rfl) kQ rfl hF (hS.keep sQ zQ) (q_adds (p := [97, 97, 97]) rfl rfl bQ) ?_
  clear hF; intro a hF
  refine goW_takeg 24 _ rfl (wanted_go 165 rfl rfl) kQ rfl hF (hS.keep sQ zQ) (q_dt (q_eqs rfl rfl) (by decide +kernel)) ?_
  clear hF; intro a hF
  refine goW_take 25 _ rfl kQ rfl hF (hS.keep sQ zQ) (q_pick_t rfl rfl) ?_
  clear hF; intro a hF
  refine goW_take 26 _ rfl kQ rfl hF (hS.keep sQ zQ) (q_move rfl) ?_
  clear hF; intro a hF
  refine goW_takeg 27 _ rfl (wanted_go 172 rfl rfl) kQ rfl hF (hS.keep sQ zQ) (q_move rfl) ?_
  clear hF; intro a hF
  refine goW_takeg 28 _ rfl (wanted_go 172 rfl rfl) kQ rfl hF (hS.keep sQ zQ) (q_idx_s ty9 rfl rfl (by decide +kernel)) ?_
  clear hF; intro a hF
  refine goW_takeg 29 _ rfl (wanted_go 172 rfl rfl) kQ rfl hF (hS.keep sQ zQ) (q_dt (q_eqb (q := 96) rfl rfl) (by decide +kernel)) ?_
  clear hF; intro a hF
  refine goW_take 30 _ rfl kQ rfl hF (hS.keep sQ zQ) (q_pick_t rfl rfl) ?_
  clear hF; intro a hF
  refine goW_take 31 _ rfl kQ rfl hF (hS.keep sQ zQ) (q_move rfl) ?_
  clear hF; intro a hF
  refine goW_takeg 32 _ rfl (wanted_go 177 rfl rfl) kQ rfl hF (hS.keep sQ zQ) (q_move rfl) ?_
  clear hF; intro a hF
  refine goW_takeg 33 _ rfl (wanted_go 177 rfl rfl) kQ rfl hF (hS.keep sQ zQ) (q_dt (q_eqi rfl rfl) (by decide)) ?_
  clear hF; intro a hF
  refine goW_take 34 _ rfl kQ rfl hF (hS.keep sQ zQ) (q_pick_t rfl rfl) ?_
  clear hF; intro a hF
  refine goW_take 35 _ rfl kQ rfl hF (hS.keep sQ zQ) (q_move rfl) ?_
  clear hF; intro a hF
  refine goW_takeg 36 _ rfl (wanted_go 181 rfl rfl) kQ rfl hF (hS.keep sQ zQ) (q_move rfl) ?_
  clear hF; intro a hF
  refine goW_takeg 37 _ rfl (wanted_go 181 rfl rfl) kQ rfl hF (hS.keep sQ zQ) (q_dt (q_eqi rfl rfl) (by decide)) ?_
  clear hF; intro a hF
  refine goW_take 38 _ rfl kQ rfl hF (hS.keep sQ zQ) (q_pick_t rfl rfl) ?_
  clear hF; intro a hF
  refine goW_take 39 _ rfl kQ rfl hF (hS.keep sQ zQ) (q_move rfl) ?_
  clear hF; intro a hF
  refine goW_takeg 40 _ rfl (wanted_go 185 rfl rfl) kQ rfl hF (hS.keep sQ zQ) (q_move rfl) ?_
  clear hF; intro a hF
  refine goW_fork [41] kQ rfl ⟨?_, trivial⟩
  replace hS := hS.perm (.swap _ _ _)
  replace hS := hS.perm (.cons _ (.swap _ _ _))
  replace hS := hS.perm (.cons _ (.cons _ (.swap _ _ _)))
  replace hS := hS.perm (.cons _ (.cons _ (.cons _ (.swap _ _ _))))
  replace hS : St _ [_] [_, _, _, _, _, _, _, _, _, _, _] _ := hS
  refine stepW_efg _ rfl (wanted_go 185 rfl rfl) rfl hF hS rfl (ef_callx fn27 rfl (List.Perm.refl _) (by exact (dupf_ct _ _ (by first | rfl | (rw [Dk.u9]; rfl) | (rw [Dk.u1]; rfl)) _ _  hD135))) ?_
  clear hF hS; rintro _ _ _ a w ⟨_, _, rfl, rfl, ⟨rfl, rfl, qa_26_41, qb_26_41, qc_26_41, qd_26_41, rfl, hD_26_41⟩⟩ hF hS
  refine ⟨⟨iQ, iQ, iQ, .inr (hS.keep sQ zQ), .inr (hS.keep sQ zQ), iQ, .inr (hS.keep sQ zQ), .inr (hS.keep sQ zQ), .inr (hS.keep sQ zQ), .inr (hS.keep sQ zQ), .inr (hS.keep sQ zQ), .inr (hS.keep sQ zQ), .inr (hS.keep sQ zQ), .inr (hS.keep sQ zQ), .inr (hS.keep sQ zQ), .inr (hS.keep sQ zQ), .inr (hS.keep sQ zQ), .inr (hS.keep sQ zQ), .inr (hS.keep sQ zQ), .inr (hS.keep sQ zQ), iQ, iQ, .inr (hS.keep sQ zQ), .inr (hS.keep sQ (zQ.k.n.n.n.n.n.n.n.n.n)), .inr (hS.keep sQ (zQ.k.n.n.n.n.n.n.n.n.n)), .inr (hS.keep sQ zQ), iQ, .inr (hS.keep sQ zQ), .inr (hS.keep sQ zQ), .inr (hS.keep sQ (sQ.n.n.n.n.n.n.n.n.n.n)), .inr (hS.keep sQ (sQ.n.n.n.n.n.n.n.n.n.n)), .inr (hS.keep sQ zQ), iQ, iQ, .inr (hS.keep sQ zQ), .inr (hS.keep sQ zQ), iQ, iQ, trivial⟩, ?_⟩
  refine goW_takeg 42 _ rfl (wanted_go 185 rfl rfl) kQ rfl hF (hS.keep sQ zQ) (q_not rfl) ?_
  clear hF; intro a hF
  refine goW_take 43 _ rfl kQ rfl hF (hS.keep sQ zQ) (q_pick_t rfl rfl) ?_
  clear hF; intro a hF
  refine goW_take 44 _ rfl kQ rfl hF (hS.keep sQ zQ) (q_move rfl) ?_
  clear hF; intro a hF
  refine goW_takeg 45 _ rfl (wanted_go 190 rfl rfl) kQ rfl hF (hS.keep sQ zQ) (q_move rfl) ?_
  clear hF; intro a hF
  refine goW_fork [46] kQ rfl ⟨?_, trivial⟩
  replace hS := hS.perm (.cons _ (.cons _ (.cons _ (.cons _ (.swap _ _ _)))))
  replace hS := hS.perm (.cons _ (.cons _ (.cons _ (.swap _ _ _))))
  replace hS := hS.perm (.cons _ (.cons _ (.swap _ _ _)))
  replace hS := hS.perm (.cons _ (.swap _ _ _))
  replace hS := hS.perm (.swap _ _ _)
  replace hS := hS.perm (.cons _ (.cons _ (.cons _ (.cons _ (.cons _ (.swap _ _ _))))))
  replace hS := hS.perm (.cons _ (.cons _ (.cons _ (.cons _ (.swap _ _ _)))))
  replace hS := hS.perm (.cons _ (.cons _ (.cons _ (.swap _ _ _))))
  replace hS := hS.perm (.cons _ (.cons _ (.swap _ _ _)))
  replace hS := hS.perm (.cons _ (.swap _ _ _))
  replace hS := hS.perm (.cons _ (.cons _ (.cons _ (.cons _ (.cons _ (.cons _ (.swap _ _ _)))))))
  replace hS := hS.perm (.cons _ (.cons _ (.cons _ (.cons _ (.cons _ (.swap _ _ _))))))
  replace hS := hS.perm (.cons _ (.cons _ (.cons _ (.cons _ (.swap _ _ _)))))
  replace hS := hS.perm (.cons _ (.cons _ (.cons _ (.swap _ _ _))))
  replace hS := hS.perm (.cons _ (.cons _ (.swap _ _ _)))
  replace hS := hS.perm (.cons _ (.cons _ (.cons _ (.cons _ (.cons _ (.cons _ (.cons _ (.swap _ _ _))))))))
  replace hS := hS.perm (.cons _ (.cons _ (.cons _ (.cons _ (.cons _ (.cons _ (.swap _ _ _)))))))
  replace hS := hS.perm (.cons _ (.cons _ (.cons _ (.cons _ (.cons _ (.swap _ _ _))))))
  replace hS := hS.perm (.cons _ (.cons _ (.cons _ (.cons _ (.swap _ _ _)))))
  replace hS := hS.perm (.cons _ (.cons _ (.cons _ (.swap _ _ _))))
  replace hS : St _ [_] [_, _, _, _, _, _, _, _, _, _, _] _ := hS
  refine stepW_efg _ rfl (wanted_go 190 rfl rfl) rfl hF hS rfl (ef_callx fn27 rfl (List.Perm.refl _) (by exact (dupt_ct _ _ (by first | rfl | (rw [Dk.u9]; rfl) | (rw [Dk.u1]; rfl)) _ _  hD129))) ?_
  clear hF hS; rintro _ _ _ a w ⟨_, _, rfl, rfl, ⟨rfl, rfl, qa_26_46, qb_26_46, qc_26_46, qd_26_46, rfl, hD_26_46⟩⟩ hF hS
  refine ⟨⟨iQ, iQ, iQ, .inr (hS.keep sQ zQ), iQ, iQ, iQ, .inr (hS.keep sQ zQ), .inr (hS.keep sQ zQ), iQ, .inr (hS.keep sQ zQ), .inr (hS.keep sQ zQ), .inr (hS.keep sQ zQ), .inr (hS.keep sQ zQ), .inr (hS.keep sQ zQ), .inr (hS.keep sQ zQ), .inr (hS.keep sQ zQ), .inr (hS.keep sQ zQ), .inr (hS.keep sQ zQ), .inr (hS.keep sQ zQ), .inr (hS.keep sQ zQ), .inr (hS.keep sQ zQ), .inr (hS.keep sQ zQ), .inr (hS.keep sQ zQ), iQ, iQ, .inr (hS.keep sQ zQ), .inr (hS.keep sQ (zQ.k.n.n.n.n.n.n.n.n.n)), .inr (hS.keep sQ (zQ.k.n.n.n.n.n.n.n.n.n)), .inr (hS.keep sQ zQ), iQ, .inr (hS.keep sQ zQ), .inr (hS.keep sQ zQ), .inr (hS.keep sQ (sQ.n.n.n.n.n.n.n.n.n.n)), .inr (hS.keep sQ (sQ.n.n.n.n.n.n.n.n.n.n)), .inr (hS.keep sQ zQ), iQ, iQ, .inr (hS.keep sQ zQ), .inr (hS.keep sQ zQ), iQ, iQ, trivial⟩, ?_⟩
  refine goW_take 47 _ rfl kQ rfl hF (hS.keep sQ zQ) (q_pick_t rfl rfl) ?_
  clear hF; intro a hF
  refine goW_take 48 _ rfl kQ rfl hF (hS.keep sQ zQ) (q_move rfl) ?_
  clear hF; intro a hF
  refine goW_takeg 49 _ rfl (wanted_go 194 rfl rfl) kQ rfl hF (hS.keep sQ zQ) (q_move rfl) ?_
  clear hF; intro a hF
  refine goW_takeg 50 _ rfl (wanted_go 194 rfl rfl) kQ rfl hF (hS.keep sQ zQ) (q_dt (q_eqi rfl rfl) (by decide)) ?_
  clear hF; intro a hF
  refine goW_take 51 _ rfl kQ rfl hF (hS.keep sQ zQ) (q_pick_t rfl rfl) ?_
  clear hF; intro a hF
  refine goW_take 52 _ rfl kQ rfl hF (hS.keep sQ zQ) (q_move rfl) ?_
  clear hF; intro a hF
  refine goW_takeg 53 _ rfl (wanted_go 198 rfl rfl) kQ rfl hF (hS.keep sQ zQ) (q_move rfl) ?_
  clear hF; intro a hF
  refine goW_fork [54] kQ rfl ⟨?_, trivial⟩
  refine stepW_efg _ rfl (wanted_go 198 rfl rfl) rfl hF hS rfl (ef_qt (q_call fn18 rfl (fun w hS => full_ct 97 w ) (fun _ _ _ h => h))) ?_
  clear hF hS; rintro _ _ _ a w ⟨rfl, rfl, rfl⟩ hF hS
  refine ⟨⟨.inr (hS.keep sQ zQ), iQ, iQ, .inr (hS.keep sQ zQ), .inr (hS.keep sQ zQ), iQ, .inr (hS.keep sQ zQ), iQ, iQ, iQ, .inr (hS.keep sQ zQ), iQ, iQ, iQ, .inr (hS.keep sQ zQ), .inr (hS.keep sQ zQ), iQ, .inr (hS.keep sQ zQ), .inr (hS.keep sQ zQ), .inr (hS.keep sQ zQ), .inr (hS.keep sQ zQ), .inr (hS.keep sQ zQ), .inr (hS.keep sQ zQ), .inr (hS.keep sQ zQ), .inr (hS.keep sQ zQ), .inr (hS.keep sQ zQ), .inr (hS.keep sQ zQ), .inr (hS.keep sQ zQ), .inr (hS.keep sQ zQ), .inr (hS.keep sQ zQ), .inr (hS.keep sQ zQ), iQ, iQ, .inr (hS.keep sQ zQ), .inr (hS.keep sQ (zQ.k.n.n.n.n.n.n.n.n.n)), .inr (hS.keep sQ (zQ.k.n.n.n.n.n.n.n.n.n)), .inr (hS.keep sQ zQ), iQ, .inr (hS.keep sQ zQ), .inr (hS.keep sQ zQ), .inr (hS.keep sQ (sQ.n.n.n.n.n.n.n.n.n.n)), .inr (hS.keep sQ (sQ.n.n.n.n.n.n.n.n.n.n)), .inr (hS.keep sQ zQ), iQ, iQ, .inr (hS.keep sQ zQ), .inr (hS.keep sQ zQ), iQ, iQ, trivial⟩, ?_⟩
  refine goW_takeg 55 _ rfl (wanted_go 198 rfl rfl) kQ rfl hF (hS.keep sQ zQ) (q_dt (q_eqs rfl rfl) (by decide +kernel)) ?_
  clear hF; intro a hF
  refine goW_take 56 _ rfl kQ rfl hF (hS.keep sQ zQ) (q_pick_t rfl rfl) ?_
  clear hF; intro a hF
  refine goW_take 57 _ rfl kQ rfl hF (hS.keep sQ zQ) (q_move rfl) ?_
  clear hF; intro a hF
  refine goW_takeg 58 _ rfl (wanted_go 203 rfl rfl) kQ rfl hF (hS.keep sQ zQ) (q_move rfl) ?_
  clear hF; intro a hF
  refine goW_takeg 59 _ rfl (wanted_go 203 rfl rfl) kQ rfl hF (hS.keep sQ (zQ.k.n.n.n.n.n.n.n.n)) (q_len_row ty31 0 rfl rfl) ?_
  clear hF; intro a hF
  refine goW_takeg 60 _ rfl (wanted_go 203 rfl rfl) kQ rfl hF (hS.keep sQ zQ) (q_dt (q_eqi rfl rfl) (by decide)) ?_
  clear hF; intro a hF
  refine goW_take 61 _ rfl kQ rfl hF (hS.keep sQ zQ) (q_pick_t rfl rfl) ?_
  clear hF; intro a hF
  refine goW_take 62 _ rfl kQ rfl hF (hS.keep sQ zQ) (q_move rfl) ?_
  clear hF; intro a hF
  refine goW_takeg 63 _ rfl (wanted_go 208 rfl rfl) kQ rfl hF (hS.keep sQ zQ) (q_move rfl) ?_
  clear hF; intro a hF
  refine goW_fork [64] kQ rfl ⟨?_, trivial⟩
  replace hS := hS.perm (.cons _ (.cons _ (.cons _ (.swap _ _ _))))
  replace hS := hS.perm (.cons _ (.cons _ (.swap _ _ _)))
  replace hS := hS.perm (.cons _ (.swap _ _ _))
  replace hS := hS.perm (.swap _ _ _)
  replace hS := hS.perm (.cons _ (.cons _ (.cons _ (.cons _ (.swap _ _ _)))))
  replace hS := hS.perm (.cons _ (.cons _ (.cons _ (.swap _ _ _))))
  replace hS := hS.perm (.cons _ (.cons _ (.swap _ _ _)))
  replace hS := hS.perm (.cons _ (.swap _ _ _))
  replace hS := hS.perm (.cons _ (.cons _ (.cons _ (.cons _ (.cons _ (.swap _ _ _))))))
  replace hS := hS.perm (.cons _ (.cons _ (.cons _ (.cons _ (.swap _ _ _)))))
  replace hS := hS.perm (.cons _ (.cons _ (.cons _ (.swap _ _ _))))
  replace hS := hS.perm (.cons _ (.cons _ (.swap _ _ _)))
  replace hS := hS.perm (.cons _ (.cons _ (.cons _ (.cons _ (.cons _ (.cons _ (.swap _ _ _)))))))
  replace hS := hS.perm (.cons _ (.cons _ (.cons _ (.cons _ (.cons _ (.swap _ _ _))))))
  replace hS := hS.perm (.cons _ (.cons _ (.cons _ (.cons _ (.swap _ _ _)))))
  replace hS := hS.perm (.cons _ (.cons _ (.cons _ (.swap _ _ _))))
  replace hS : St _ [_] [_, _, _, _, _, _, _, _, _, _, _] _ := hS
  refine stepW_efg _ rfl (wanted_go 208 rfl rfl) rfl hF hS rfl (ef_callx fn31 rfl (List.Perm.refl _) (by exact (dlen_ct _ _ _ _  hD_26_41))) ?_
  clear hF hS; rintro _ _ _ a w ⟨_, _, rfl, rfl, ⟨rfl, rfl, qa_26_64, qb_26_64, qc_26_64, qd_26_64, rfl, hD_26_64⟩⟩ hF hS
  refine ⟨⟨iQ, iQ, iQ, .inr (hS.keep sQ zQ), .inr (hS.keep sQ (zQ.k.n.n.n.n.n.n.n.n)), .inr (hS.keep sQ zQ), iQ, .inr (hS.keep sQ zQ), .inr (hS.keep sQ zQ), .inr (hS.keep sQ zQ), iQ, iQ, .inr (hS.keep sQ zQ), .inr (hS.keep sQ zQ), iQ, .inr (hS.keep sQ zQ), iQ, iQ, iQ, .inr (hS.keep sQ zQ), iQ, iQ, iQ, .inr (hS.keep sQ zQ), .inr (hS.keep sQ zQ), iQ, .inr (hS.keep sQ zQ), .inr (hS.keep sQ zQ), .inr (hS.keep sQ zQ), .inr (hS.keep sQ zQ), .inr (hS.keep sQ zQ), .inr (hS.keep sQ zQ), .inr (hS.keep sQ zQ), .inr (hS.keep sQ zQ), .inr (hS.keep sQ zQ), .inr (hS.keep sQ zQ), .inr (hS.keep sQ zQ), .inr (hS.keep sQ zQ), .inr (hS.keep sQ zQ), .inr (hS.keep sQ zQ), iQ, iQ, .inr (hS.keep sQ zQ), .inr (hS.keep sQ (zQ.k.n.n.n.n.n.n.n.n.n)), .inr (hS.keep sQ (zQ.k.n.n.n.n.n.n.n.n.n)), .inr (hS.keep sQ zQ), iQ, .inr (hS.keep sQ zQ), .inr (hS.keep sQ zQ), .inr (hS.keep sQ (sQ.n.n.n.n.n.n.n.n.n.n)), .inr (hS.keep sQ (sQ.n.n.n.n.n.n.n.n.n.n)), .inr (hS.keep sQ zQ), iQ, iQ, .inr (hS.keep sQ zQ), .inr (hS.keep sQ zQ), iQ, iQ, trivial⟩, ?_⟩
  refine goW_takeg 65 _ rfl (wanted_go 208 rfl rfl) kQ rfl hF (hS.keep sQ zQ) (q_dt (q_eqi rfl rfl) (by rw [Dk.l9]; rfl)) ?_
  clear hF; intro a hF
  refine goW_take 66 _ rfl kQ rfl hF (hS.keep sQ zQ) (q_pick_t rfl rfl) ?_
  clear hF; intro a hF
  refine goW_take 67 _ rfl kQ rfl hF (hS.keep sQ zQ) (q_assign rfl) ?_
  clear hF; intro a hF
  exact goW_done kQ (j12_mk qa_26_41 qb_26_41 qc_26_41 qd_26_41 qa_26_46 qb_26_46 qc_26_46 qd_26_46 qa_26_64 qb_26_64 qc_26_64 qd_26_64 ((And.intro hD_26_41 (And.intro hD_26_46 (And.intro hD_26_64 trivial)))) (hF.sub (L' := [(0, _)]) ⟨rfl, trivial⟩) hS)
 rintro a w ⟨qa_26_41, qb_26_41, qc_26_41, qd_26_41, qa_26_46, qb_26_46, qc_26_46, qd_26_46, qa_26_64, qb_26_64, qc_26_64, qd_26_64, ⟨hD_26_41, hD_26_46, hD_26_64, -⟩, hF, hS⟩
 (try dsimp only at hF); (try dsimp only at hS)
 refine hK27 _ _ ?_
 clear hK27
 refine wp_ret ?_
 exact fn_ret (rs := [.tmp 0]) rfl hF hS (vs := [_]) ⟨rfl, trivial⟩ zQ zQ (rfl)
end Go.Proofs.Ytbgbfmdnpjpdgaa
