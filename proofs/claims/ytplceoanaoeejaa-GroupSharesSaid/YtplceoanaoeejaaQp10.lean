/- A text of a proof over this seat: walks over the program's functions and the plain laws that they need. -/
import Derived.Test.YtplceoanaoeejaaQp9
import Derived.Test.YtplceoanaoeejaaGpA
import Derived.Test.YtplceoanaoeejaaFwC
import Derived.Test.YtplceoanaoeejaaFwB
set_option linter.all false
namespace Go.Proofs.Ytplceoanaoeejaa
open Go.Fw
theorem ty82 : Tf Try.prog 82 (.struct #[⟨ "By", 3, 0, false, "", "", 0⟩, ⟨ "Seq", 3, 1, false, "", "", 8⟩]) 2 16 (.agg ([Value.int .i64 0, Value.int .i64 0]).toArray) := ⟨Try.underlying82, by kernel_rfl⟩
theorem fn11 : FnOk Try.prog 11 := ⟨_, Try.func11, rfl, by kernel_rfl⟩
theorem fn13 : FnOk Try.prog 13 := ⟨_, Try.func13, rfl, by kernel_rfl⟩
theorem fn17 : FnOk Try.prog 17 := ⟨_, Try.func17, rfl, by kernel_rfl⟩
theorem fn19 : FnOk Try.prog 19 := ⟨_, Try.func19, rfl, by kernel_rfl⟩
theorem fn22 : FnOk Try.prog 22 := ⟨_, Try.func22, rfl, by kernel_rfl⟩
theorem fn25 : FnOk Try.prog 25 := ⟨_, Try.func25, rfl, by kernel_rfl⟩

set_option maxRecDepth 4000 in
set_option maxHeartbeats 2000000 in
theorem lives_ct (w : World) : Ct Try.prog 18 [] w (fun r _ _ => r = .bool true) := by
 refine fn_enter Try.func18 rfl Try.ntmps18 (Nat.le_of_ble_eq_true rfl) fun a hF hS => ?_
 refine wp_seq_k ?_; intro K1 hK1
 refine reg hF hS (sq rfl (q_assign rfl) <|
   sq_end) ?_
 clear hF hS; intro a w hF hS
 refine hK1 _ _ ?_
 clear hK1
 refine wp_seq_k ?_; intro K2 hK2
 refine regl ?_
 refine wpl_sq hF hS (sq rfl (q_buildP (places := [(0, 1), (1, 1)]) (cells := [.int .i64 0, .int .i64 0]) ty82 kQ rfl (by rfl)) <|
   sq rfl (q_buildP (places := [(0, 1), (1, 1)]) (cells := [.int .i64 0, _]) ty82 kQ rfl (by rfl)) <|
   sq rfl (q_buildP (places := [(0, 1), (1, 1)]) (cells := [.int .i64 0, _]) ty82 kQ rfl (by rfl)) <|
   sq rfl (q_buildP (places := [(0, 1), (1, 1)]) (cells := [.int .i64 0, _]) ty82 kQ rfl (by rfl)) <|
   sq_end) ?_
 clear hF hS; intro a w hF hS
 refine wpl_ef hF hS rfl (ef_bsliceC ty28 ty82 [[_, _], [_, _], [_, _], [_, _]] rfl rfl (by simp) (oc2_cons (oc_cons rfl (oc_cons rfl oc_nil)) (oc2_cons (oc_cons rfl (oc_cons rfl oc_nil)) (oc2_cons (oc_cons rfl (oc_cons rfl oc_nil)) (oc2_cons (oc_cons rfl (oc_cons rfl oc_nil)) oc2_nil)))) (by decide) rfl rfl) ?_
 clear hF hS; rintro v1 _ _ a w ⟨rfl, rfl⟩ hF hS
 replace hS : St _ [] [_] _ := hS
 refine wpl_sq hF hS (sq rfl (q_build1 ty31 3 kQ rfl (row_one (hS.own _ (List.mem_of_getElem? (i := 0) rfl)).1) rfl (by decide)) <|
   sq_end) ?_
 clear hF hS; intro a w hF hS
 refine wpl_ef hF hS rfl (ef_allocA ty31) ?_
 clear hF hS; rintro _ _ _ a w ⟨b3, rfl, rfl, rfl⟩ hF hS
 refine wpl_ef hF hS rfl (ef_storeW ty31 0 rfl rfl rfl rfl bQ (oc_cons (row_one (hS.own _ (List.mem_of_getElem? (i := 1) rfl)).1) (oc_cons rfl (oc_cons rfl oc_nil))) bQ) ?_
 clear hF hS; rintro _ _ _ a w ⟨rfl, rfl, rfl⟩ hF hS
 replace hS : St _ [] [_, _] _ := hS
 refine wpList_nil ?_
 replace hS := hS.nilRow 3 1
 replace hS : St _ [] [_, _, _] _ := hS
 replace hS := hS.nilRow 4 1
 replace hS : St _ [] [_, _, _, _] _ := hS
 refine hK2 _ _ ?_
 clear hK2
 refine wp_seq_k ?_; intro K3 hK3
 refine reg hF hS (sq rfl (q_assign rfl) <|
   sq_end) ?_
 clear hF hS; intro a w hF hS
 replace hS := hS.nilRow 4 1
 refine hK3 _ _ ?_
 clear hK3
 refine wp_seq_k ?_; intro K4 hK4
 refine wp_seq_k ?_; intro K5 hK5
 refine reg hF hS (sq rfl (q_assign rfl) <|
   sq_end) ?_
 clear hF hS; intro a w hF hS
 refine hK5 _ _ ?_
 clear hK5
 refine wp_block ?_
 obtain ⟨hs0, hhs0, hS⟩ : ∃ h, h = _ ∧ St _ _ h _ := ⟨_, rfl, hS⟩
 refine wp_loopx (γ := Value × Value × Value × Int) ((Value.slice none 0 0), (Value.slice none 0 0), (Value.slice none 0 0), 0) (fun (gg : Value × Value × Value × Int) => match gg with | (u1, u2, u3, i) => [(2, u3), (3, vi i)]) [(1, _)] (fun (gg : Value × Value × Value × Int) => match gg with | (u1, u2, u3, i) => ((((hs0.set 3 (.blk b3 31 [v1, u1, u2])).set 2 (.row u1 3 1 i.toNat ((Gp.lvS i.toNat).map vi))).set 1 (.row u2 4 1 i.toNat ((Gp.lvB i.toNat).map vt))).set 0 (.row u3 4 1 i.toNat ((Gp.lvM i.toNat).map vt)))) (fun (gg : Value × Value × Value × Int) => match gg with | (u1, u2, u3, i) => 0 ≤ i ∧ i ≤ 16) (fun (gg : Value × Value × Value × Int) => match gg with | (u1, u2, u3, i) => (16 - i).toNat) (hF.sub ⟨rfl, rfl, rfl, trivial⟩) (by subst hhs0; exact hS) (by exact ⟨Int.le_refl _, by omega⟩) ?_
 clear hF hS; rintro ⟨u1, u2, u3, i⟩ a w hfact hF hS
 subst hhs0; (try dsimp only at hfact); (try dsimp only at hF); (try dsimp only at hS)
 obtain ⟨hi0, hi1⟩ := hfact
 replace hS : St _ [] [_, _, _, _, _] _ := hS
 refine wp_seq_k ?_; intro K6 hK6
 refine wp_seq_k ?_; intro K7 hK7
 refine reg hF hS (sq rfl (q_move rfl) <|
   sq rfl (q_lti rfl rfl) <|
   sq_end) ?_
 clear hF hS; intro a w hF hS
 refine hK7 _ _ ?_
 clear hK7
 refine wp_ifd hF rfl (fun hc1 => ?_) (fun hc1 => ?_)
 ·refine wp_skip ?_
  refine hK6 _ _ ?_
  clear hK6
  refine wp_seq_k ?_; intro K8 hK8
  refine wp_block ?_
  refine wp_seq_k ?_; intro K9 hK9
  refine regl ?_
  refine wpl_sq hF hS (sq rfl (q_fieldAddr ty31 rfl rfl (s' := 0) kQ) <|
    sq rfl (q_ld_blk1 ty22 3 rfl rfl rfl rfl) <|
    sq rfl (q_move rfl) <|
    sq_end) ?_
  clear hF hS; intro a w hF hS
  refine wpl_ef hF hS rfl (ef_bsliceA ty22 ty3 rfl rfl oQ (by decide) rfl rfl) ?_
  clear hF hS; rintro v7 _ _ a w ⟨rfl, rfl⟩ hF hS
  replace hS : St _ [] [_, _, _, _, _, _] _ := hS
  refine wpl_ef hF hS rfl (ef_append ty22 ty3 3 rfl rfl rfl (src_row ty22 (k := 0) rfl oQ) bQ rfl (by decide)) ?_
  clear hF hS; rintro v9 _ _ a w ⟨rfl, rfl⟩ hF hS
  replace hS : St _ [] [_, _, _, _, _, _] _ := hS
  refine wpl_sq hF hS (sq rfl (q_fieldAddr ty31 rfl rfl (s' := 0) kQ) <|
    sq_end) ?_
  clear hF hS; intro a w hF hS
  refine wpl_ef hF hS rfl (ef_store1 ty22 4 rfl rfl rfl (row_one (hS.own _ (List.mem_of_getElem? (i := 3) rfl)).1) (by simp)) ?_
  clear hF hS; rintro _ _ _ a w ⟨rfl, rfl, rfl⟩ hF hS
  replace hS : St _ [] [_, _, _, _, .blk _ _ ([_, _, _].set 1 _), _] _ := hS
  simp only [List.set_cons_zero, List.set_cons_succ] at hS
  replace hS : St _ [] [_, _, _, _, _, _] _ := hS
  refine wpList_nil ?_
  refine hK9 _ _ ?_
  clear hK9
  refine wp_seq_k ?_; intro K10 hK10
  refine regl ?_
  refine wpl_sq hF hS (sq rfl (q_fieldAddr ty31 rfl rfl (s' := 0) kQ) <|
    sq rfl (q_ld_blk1 ty29 4 rfl rfl rfl rfl) <|
    sq_end) ?_
  clear hF hS; intro a w hF hS
  refine wpl_ef hF hS rfl (ef_bsliceA ty29 ty4 rfl rfl oQ (by decide) rfl rfl) ?_
  clear hF hS; rintro v10 _ _ a w ⟨rfl, rfl⟩ hF hS
  replace hS : St _ [] [_, _, _, _, _, _, _] _ := hS
  refine wpl_ef hF hS rfl (ef_append ty29 ty4 3 rfl rfl rfl (src_row ty29 (k := 0) rfl oQ) bQ rfl (by decide)) ?_
  clear hF hS; rintro v12 _ _ a w ⟨rfl, rfl⟩ hF hS
  replace hS : St _ [] [_, _, _, _, _, _, _] _ := hS
  refine wpl_sq hF hS (sq rfl (q_fieldAddr ty31 rfl rfl (s' := 0) kQ) <|
    sq_end) ?_
  clear hF hS; intro a w hF hS
  refine wpl_ef hF hS rfl (ef_store1 ty29 5 rfl rfl rfl (row_one (hS.own _ (List.mem_of_getElem? (i := 3) rfl)).1) (by simp)) ?_
  clear hF hS; rintro _ _ _ a w ⟨rfl, rfl, rfl⟩ hF hS
  replace hS : St _ [] [_, _, _, _, _, .blk _ _ ([_, _, _].set 2 _), _] _ := hS
  simp only [List.set_cons_zero, List.set_cons_succ] at hS
  replace hS : St _ [] [_, _, _, _, _, _, _] _ := hS
  refine wpList_nil ?_
  refine hK10 _ _ ?_
  clear hK10
  refine regl ?_
  refine wpl_sq hF hS (sq rfl (q_move rfl) <|
    sq rfl (q_move rfl) <|
    sq rfl (q_andi rfl rfl) <|
    sq rfl (q_eqi rfl rfl) <|
    sq_end) ?_
  clear hF hS; intro a w hF hS
  refine wpl_ef hF hS rfl (ef_bsliceA ty29 ty4 rfl rfl oQ (by decide) rfl rfl) ?_
  clear hF hS; rintro v13 _ _ a w ⟨rfl, rfl⟩ hF hS
  replace hS : St _ [] [_, _, _, _, _, _, _, _] _ := hS
  refine wpl_ef hF hS rfl (ef_append ty29 ty4 3 rfl rfl rfl (src_row ty29 (k := 0) rfl oQ) bQ rfl (by decide)) ?_
  clear hF hS; rintro v15 _ _ a w ⟨rfl, rfl⟩ hF hS
  replace hS : St _ [] [_, _, _, _, _, _, _, _] _ := hS
  refine wpl_sq hF hS (sq rfl (q_assign rfl) <|
    sq_end) ?_
  clear hF hS; intro a w hF hS
  refine wpList_nil ?_
  refine hK8 _ _ ?_
  clear hK8
  refine reg hF hS (sq rfl (q_move rfl) <|
    sq rfl (q_addi rfl rfl (by omega)) <|
    sq rfl (q_assign rfl) <|
    sq_end) ?_
  clear hF hS; intro a w hF hS
  replace hS := hS.keep zQ (sQ.n.n.n)
  refine ⟨(v9, v12, v15, i + 1), ?_, ?_, hF.sub ⟨rfl, rfl, rfl, trivial⟩, ?_⟩
  ·(try dsimp only); omega
  ·(try dsimp only); omega
  ·dsimp only; rw [show (i + 1).toNat = i.toNat + 1 by omega, Gp.lvS_succ, Gp.lvB_succ, Gp.lvM_succ, List.map_append, List.map_append, List.map_append, show ((i.toNat : Nat) : Int) = i by omega]; exact hS
 ·obtain rfl : i = 16 := by omega
  rw [show (16 : Int).toNat = 16 from rfl] at hS
  refine wp_exit ?_
  refine hK4 _ _ ?_
  clear hK4
  refine wp_seq_k ?_; intro K11 hK11
  refine regl ?_
  refine wpl_ef hF hS rfl (ef_bsliceA ty22 ty3 rfl rfl oQ (by decide) rfl rfl) ?_
  clear hF hS; rintro v16 _ _ a w ⟨rfl, rfl⟩ hF hS
  replace hS : St _ [] [_, _, _, _, _, _] _ := hS
  refine wpl_sq hF hS (sq rfl (q_build1 ty35 2 kQ rfl (row_one (hS.own _ (List.mem_of_getElem? (i := 0) rfl)).1) rfl (by decide)) <|
    sq_end) ?_
  clear hF hS; intro a w hF hS
  refine wpl_ef hF hS rfl (ef_allocA ty35) ?_
  clear hF hS; rintro _ _ _ a w ⟨b18, rfl, rfl, rfl⟩ hF hS
  refine wpl_ef hF hS rfl (ef_storeW ty35 0 rfl rfl rfl rfl bQ (oc_cons rfl (oc_cons (row_one (hS.own _ (List.mem_of_getElem? (i := 1) rfl)).1) oc_nil)) bQ) ?_
  clear hF hS; rintro _ _ _ a w ⟨rfl, rfl, rfl⟩ hF hS
  replace hS : St _ [] [_, _, _, _, _, _, _] _ := hS
  refine wpList_nil ?_
  replace hS := hS.perm (.swap _ _ _)
  obtain ⟨zU, hzU, hS⟩ := St.freezeV (h0 := fun _ => rfl) (f := vi) (p := fun x => -9223372036854775808 ≤ x ∧ x ≤ 9223372036854775807) (xs := [1, 2, 4, 8]) hS (by first | rfl | decide | exact (Gp.lvS_len _).symm | exact (Gp.lvB_len _).symm | exact (Gp.lvM_len _).symm) (by decide) (by simp)
  replace hS : St _ [_] [_, _, _, _, _, _] _ := hS
  replace hS := hS.perm (.cons _ (.cons _ (.swap _ _ _)))
  replace hS := hS.perm (.cons _ (.swap _ _ _))
  replace hS := hS.perm (.swap _ _ _)
  obtain ⟨zS, hzS, hS⟩ := St.freezeV (h0 := fun _ => rfl) (f := vi) (p := fun x => -9223372036854775808 ≤ x ∧ x ≤ 9223372036854775807) (xs := Gp.lvS 16) hS (by first | rfl | decide | exact (Gp.lvS_len _).symm | exact (Gp.lvB_len _).symm | exact (Gp.lvM_len _).symm) (by decide) (Gp.lvS_rng)
  replace hS : St _ [_, _] [_, _, _, _, _] _ := hS
  replace hS := hS.perm (.cons _ (.swap _ _ _))
  replace hS := hS.perm (.swap _ _ _)
  obtain ⟨zB, hzB, hS⟩ := St.freezeV (h0 := fun _ => rfl) (f := vt) (p := fun _ => True) (xs := Gp.lvB 16) hS (by first | rfl | decide | exact (Gp.lvS_len _).symm | exact (Gp.lvB_len _).symm | exact (Gp.lvM_len _).symm) (by decide) (fun _ _ => trivial)
  replace hS : St _ [_, _, _] [_, _, _, _] _ := hS
  replace hS := hS.perm (.swap _ _ _)
  obtain ⟨zM, hzM, hS⟩ := St.freezeV (h0 := fun _ => rfl) (f := vt) (p := fun _ => True) (xs := Gp.lvM 16) hS (by first | rfl | decide | exact (Gp.lvS_len _).symm | exact (Gp.lvB_len _).symm | exact (Gp.lvM_len _).symm) (by decide) (fun _ _ => trivial)
  replace hS : St _ [_, _, _, _] [_, _, _] _ := hS
  refine hK11 _ _ ?_
  clear hK11
  refine wp_seq_k ?_; intro K12 hK12
  refine regl ?_
  refine wpl_sq hF hS (sq rfl (q_ld_blkW ty31 1 rfl rfl bQ rfl) <|
    sq rfl (q_ld_blkW ty35 0 rfl rfl bQ rfl) <|
    sq rfl (q_move rfl) <|
    sq_end) ?_
  clear hF hS; intro a w hF hS
  refine wpl_ef hF hS rfl (ef_call fn11 rfl (fun w hS => alone_ct _ _ _ _ _ _ _ _ _ _ w (row_one (hS.own _ (List.mem_of_getElem? (i := 2) rfl)).1) (Sl.mono (hS.le (.inr (by simp))) hzS) (Sl.mono (hS.le (.inr (by simp))) hzB) (Sl.mono (hS.le (.inr (by simp))) hzU) (Sl.mono (hS.le (.inr (by simp))) hzM))) ?_
  clear hF hS; rintro _ _ _ a w ⟨_, _, rfl, rfl, ⟨vA, zA, hzA, rfl, rfl, rfl⟩⟩ hF hS
  replace hS : St _ [_, _, _, _, _] [_, _, _] _ := hS
  refine wpl_sq hF hS (sq rfl (q_move rfl) <|
    sq rfl (q_extract rfl rfl) <|
    sq rfl (q_extract rfl rfl) <|
    sq rfl (q_extract rfl rfl) <|
    sq rfl (q_assign rfl) <|
    sq rfl (q_assign rfl) <|
    sq rfl (q_assign rfl) <|
    sq_end) ?_
  clear hF hS; intro a w hF hS
  refine wpList_nil ?_
  rw [Gp.lv_aS, Gp.lv_open] at hF
  rw [Gp.lv_aL] at hzA
  refine hK12 _ _ ?_
  clear hK12
  refine wp_seq_k ?_; intro K13 hK13
  refine regl ?_
  refine wpl_sq hF hS (sq rfl (q_ld_blkW ty31 1 rfl rfl bQ rfl) <|
    sq rfl (q_ld_blkW ty35 0 rfl rfl bQ rfl) <|
    sq rfl (q_move rfl) <|
    sq_end) ?_
  clear hF hS; intro a w hF hS
  refine wpl_ef hF hS rfl (ef_call fn13 rfl (fun w hS => halved_ct _ _ _ _ _ _ _ _ _ _ w (row_one (hS.own _ (List.mem_of_getElem? (i := 2) rfl)).1) (Sl.mono (hS.le (.inr (by simp))) hzS) (Sl.mono (hS.le (.inr (by simp))) hzB) (Sl.mono (hS.le (.inr (by simp))) hzU) (Sl.mono (hS.le (.inr (by simp))) hzM))) ?_
  clear hF hS; rintro _ _ _ a w ⟨_, _, rfl, rfl, ⟨vT, vK, zT, hzT, hzK, rfl, rfl, rfl⟩⟩ hF hS
  replace hS : St _ [_, _, _, _, _, _] [_, _, _] _ := hS
  refine wpl_sq hF hS (sq rfl (q_move rfl) <|
    sq rfl (q_extract rfl rfl) <|
    sq rfl (q_extract rfl rfl) <|
    sq rfl (q_extract rfl rfl) <|
    sq rfl (q_assign rfl) <|
    sq rfl (q_assign rfl) <|
    sq rfl (q_assign rfl) <|
    sq_end) ?_
  clear hF hS; intro a w hF hS
  refine wpList_nil ?_
  rw [Gp.lv_open] at hF
  rw [Gp.lv_hT] at hzT
  rw [Gp.lv_hA] at hzK
  refine hK13 _ _ ?_
  clear hK13
  refine wp_seq_k ?_; intro K14 hK14
  refine reg hF hS (sq rfl (q_call fn19 rfl (fun w hS => most_ct _ _ w ) (fun _ _ _ h => h)) <|
    sq rfl (q_move rfl) <|
    sq rfl (q_extract rfl rfl) <|
    sq rfl (q_extract rfl rfl) <|
    sq rfl (q_assign rfl) <|
    sq rfl (q_assign rfl) <|
    sq_end) ?_
  clear hF hS; intro a w hF hS
  rw [Gp.lv_m.1, Gp.lv_m.2.1] at hF
  refine hK14 _ _ ?_
  clear hK14
  refine wp_seq_k ?_; intro K15 hK15
  refine reg hF hS (sq rfl (q_call fn19 rfl (fun w hS => most_ct _ _ w ) (fun _ _ _ h => h)) <|
    sq rfl (q_move rfl) <|
    sq rfl (q_extract rfl rfl) <|
    sq rfl (q_extract rfl rfl) <|
    sq rfl (q_assign rfl) <|
    sq rfl (q_assign rfl) <|
    sq_end) ?_
  clear hF hS; intro a w hF hS
  rw [Gp.lv_m.2.2.1, Gp.lv_m.2.2.2] at hF
  refine hK15 _ _ ?_
  clear hK15
  refine wp_seq_k ?_; intro K16 hK16
  refine regl ?_
  refine wpl_sq hF hS (sq rfl (q_ld_blkW ty31 1 rfl rfl bQ rfl) <|
    sq rfl (q_ld_blkW ty35 0 rfl rfl bQ rfl) <|
    sq rfl (q_move rfl) <|
    sq_end) ?_
  clear hF hS; intro a w hF hS
  refine wpl_ef hF hS rfl (ef_bsliceA ty22 ty3 rfl rfl oQ (by decide) rfl rfl) ?_
  clear hF hS; rintro v21 _ _ a w ⟨rfl, rfl⟩ hF hS
  replace hS : St _ [_, _, _, _, _, _] [_, _, _, _] _ := hS
  refine wpl_ef hF hS rfl (ef_call fn22 rfl (fun w hS => shares_ct _ _ _ _ _ _ _ _ _ _ _ _ (by decide) w (row_one (hS.own _ (List.mem_of_getElem? (i := 3) rfl)).1) (Sl.mono (hS.le (.inr (by simp))) hzS) (Sl.mono (hS.le (.inr (by simp))) hzB) (Sl.mono (hS.le (.inr (by simp))) hzU) (Sl.mono (hS.le (.inr (by simp))) hzK) (own_slV (f := vi) (xs := [15, 7]) (hS.own _ (List.mem_of_getElem? (i := 0) rfl)).1 (by decide) rfl (by decide)))) ?_
  clear hF hS; rintro _ _ _ a w ⟨_, _, rfl, rfl, ⟨vR, zR, hzR, rfl, rfl, rfl⟩⟩ hF hS
  replace hS : St _ [_, _, _, _, _, _, _] [_, _, _, _] _ := hS
  refine wpl_sq hF hS (sq rfl (q_move rfl) <|
    sq rfl (q_extract rfl rfl) <|
    sq rfl (q_extract rfl rfl) <|
    sq rfl (q_assign rfl) <|
    sq rfl (q_assign rfl) <|
    sq_end) ?_
  clear hF hS; intro a w hF hS
  refine wpList_nil ?_
  rw [Gp.lv_sE] at hF
  rw [Gp.lv_sL] at hzR
  refine hK16 _ _ ?_
  clear hK16
  refine wp_seq_k ?_; intro K17 hK17
  refine wp_seq_k ?_; intro K18 hK18
  refine reg hF hS (sq rfl (q_move rfl) <|
    sq rfl (q_nf (q_nei rfl rfl) (rfl)) <|
    sq rfl (q_move rfl) <|
    sq_go 80 rfl rfl rfl (q_move rfl) <|
    sq_go 80 rfl rfl rfl (q_nf (q_nei rfl rfl) (rfl)) <|
    sq rfl (q_pick_f rfl rfl) <|
    sq rfl (q_move rfl) <|
    sq_go 84 rfl rfl rfl (q_move rfl) <|
    sq_go 84 rfl rfl rfl (q_nf (q_nei rfl rfl) (rfl)) <|
    sq rfl (q_pick_f rfl rfl) <|
    sq rfl (q_move rfl) <|
    sq_go 88 rfl rfl rfl (q_move rfl) <|
    sq_go 88 rfl rfl rfl (q_nf (q_nei rfl rfl) (rfl)) <|
    sq rfl (q_pick_f rfl rfl) <|
    sq rfl (q_move rfl) <|
    sq_go 92 rfl rfl rfl (q_move rfl) <|
    sq_go 92 rfl rfl rfl (q_nf (q_nei rfl rfl) (rfl)) <|
    sq rfl (q_pick_f rfl rfl) <|
    sq rfl (q_move rfl) <|
    sq_go 96 rfl rfl rfl (q_move rfl) <|
    sq_go 96 rfl rfl rfl (q_nf (q_nei rfl rfl) (rfl)) <|
    sq rfl (q_pick_f rfl rfl) <|
    sq rfl (q_move rfl) <|
    sq_go 100 rfl rfl rfl (q_move rfl) <|
    sq_go 100 rfl rfl rfl (q_nf (q_nei rfl rfl) (rfl)) <|
    sq rfl (q_pick_f rfl rfl) <|
    sq rfl (q_move rfl) <|
    sq_go 104 rfl rfl rfl (q_move rfl) <|
    sq_go 104 rfl rfl rfl (q_nf (q_nei rfl rfl) (rfl)) <|
    sq rfl (q_pick_f rfl rfl) <|
    sq_end) ?_
  clear hF hS; intro a w hF hS
  refine hK18 _ _ ?_
  clear hK18
  refine wp_if hF rfl (fun h => absurd h (by simp)) (fun _ => ?_)
  refine wp_skip ?_
  refine hK17 _ _ ?_
  clear hK17
  refine wp_seq_k ?_; intro K19 hK19
  refine wp_seq_k ?_; intro K20 hK20
  revert hS; revert hF; apply regJ (J := J1 (α0 := Value) 152 _ _ _ _ _) #[false, false, false, false, false, false, false, false, false, false, false, false, false, false, false, false, false, false, false, false, false, false, false, false, false, false] 26 mixed rfl rfl
  ·intro w hF hS
   refine goW_take 0 _ rfl kQ rfl hF (hS.keep sQ (zQ.k.n.n)) (q_ld_blkW ty31 0 rfl rfl bQ rfl) ?_
   clear hF; intro a hF
   refine goW_take 1 _ rfl kQ rfl hF (hS.keep sQ (zQ.k.n)) (q_ld_blkW ty35 0 rfl rfl bQ rfl) ?_
   clear hF; intro a hF
   refine goW_take 2 _ rfl kQ rfl hF (hS.keep sQ zQ) (q_move rfl) ?_
   clear hF; intro a hF
   refine goW_take 3 _ rfl kQ rfl hF (hS.keep sQ zQ) (q_move rfl) ?_
   clear hF; intro a hF
   refine goW_take 4 _ rfl kQ rfl hF (hS.keep sQ zQ) (q_move rfl) ?_
   clear hF; intro a hF
   refine gQ 5 rfl rfl hF hS rfl (ef_qt (q_call fn25 rfl (fun w hS => gcheck_ct _ _ _ _ _ _ _ _ _ _ _ _ _ _ w (row_one (hS.own _ (List.mem_of_getElem? (i := 3) rfl)).1) (Sl.mono (hS.le (.inr (by simp))) hzS) (Sl.mono (hS.le (.inr (by simp))) hzB) (Sl.mono (hS.le (.inr (by simp))) hzU) (Sl.mono (hS.le (.inr (by simp))) hzM) (Sl.mono (hS.le (.inr (by simp))) hzT) (Sl.mono (hS.le (.inr (by simp))) hzK)) (fun _ _ _ h => h))) ?_
   clear hF hS; rintro _ _ _ a w ⟨rfl, rfl, rfl⟩ hF hS
   refine ⟨⟨iQ, iQ, iQ, iQ, iQ, trivial⟩, ?_⟩
   refine goW_take 6 _ rfl kQ rfl hF (hS.keep sQ zQ) (q_nf (q_nei rfl rfl) (Gp.lv_c0)) ?_
   clear hF; intro a hF
   refine goW_take 7 _ rfl kQ rfl hF (hS.keep sQ zQ) (q_move rfl) ?_
   clear hF; intro a hF
   refine goW_takeg 8 _ rfl (wanted_go 115 rfl rfl) kQ rfl hF (hS.keep sQ (zQ.k.n.n)) (q_ld_blkW ty31 0 rfl rfl bQ rfl) ?_
   clear hF; intro a hF
   refine goW_takeg 9 _ rfl (wanted_go 115 rfl rfl) kQ rfl hF (hS.keep sQ (zQ.k.n)) (q_ld_blkW ty35 0 rfl rfl bQ rfl) ?_
   clear hF; intro a hF
   refine goW_takeg 10 _ rfl (wanted_go 115 rfl rfl) kQ rfl hF (hS.keep sQ zQ) (q_move rfl) ?_
   clear hF; intro a hF
   refine goW_takeg 11 _ rfl (wanted_go 115 rfl rfl) kQ rfl hF (hS.keep sQ zQ) (q_move rfl) ?_
   clear hF; intro a hF
   refine goW_takeg 12 _ rfl (wanted_go 115 rfl rfl) kQ rfl hF (hS.keep sQ zQ) (q_move rfl) ?_
   clear hF; intro a hF
   refine goW_takeg 13 _ rfl (wanted_go 115 rfl rfl) kQ rfl hF (hS.keep sQ zQ) (q_slsl_hi ty22 ty3 hzR rfl rfl (by omega)) ?_
   clear hF; intro a hF
   refine goW_fork [14] kQ rfl ⟨?_, trivial⟩
   refine stepW_efg _ rfl (wanted_go 115 rfl rfl) rfl hF hS rfl (ef_qt (q_call fn25 rfl (fun w hS => gcheck_ct _ _ _ _ _ _ _ _ _ _ _ _ _ _ w (row_one (hS.own _ (List.mem_of_getElem? (i := 3) rfl)).1) (Sl.mono (hS.le (.inr (by simp))) hzS) (Sl.mono (hS.le (.inr (by simp))) hzB) (Sl.mono (hS.le (.inr (by simp))) hzU) (Sl.mono (hS.le (.inr (by simp))) hzM) (Sl.mono (hS.le (.inr (by simp))) hzT) (Sl.mono (hS.le (.inr (by simp))) (Sl.cut hzR (by omega)))) (fun _ _ _ h => h))) ?_
   clear hF hS; rintro _ _ _ a w ⟨rfl, rfl, rfl⟩ hF hS
   refine ⟨⟨iQ, iQ, iQ, iQ, iQ, iQ, iQ, iQ, iQ, iQ, iQ, iQ, iQ, trivial⟩, ?_⟩
   refine goW_takeg 15 _ rfl (wanted_go 115 rfl rfl) kQ rfl hF (hS.keep sQ zQ) (q_nf (q_nei rfl rfl) (Gp.lv_c1)) ?_
   clear hF; intro a hF
   refine goW_take 16 _ rfl kQ rfl hF (hS.keep sQ zQ) (q_pick_f rfl rfl) ?_
   clear hF; intro a hF
   refine goW_take 17 _ rfl kQ rfl hF (hS.keep sQ zQ) (q_move rfl) ?_
   clear hF; intro a hF
   refine goW_takeg 18 _ rfl (wanted_go 125 rfl rfl) kQ rfl hF (hS.keep sQ (zQ.k.n.n)) (q_ld_blkW ty31 0 rfl rfl bQ rfl) ?_
   clear hF; intro a hF
   refine goW_takeg 19 _ rfl (wanted_go 125 rfl rfl) kQ rfl hF (hS.keep sQ (zQ.k.n)) (q_ld_blkW ty35 0 rfl rfl bQ rfl) ?_
   clear hF; intro a hF
   refine goW_takeg 20 _ rfl (wanted_go 125 rfl rfl) kQ rfl hF (hS.keep sQ zQ) (q_move rfl) ?_
   clear hF; intro a hF
   refine goW_takeg 21 _ rfl (wanted_go 125 rfl rfl) kQ rfl hF (hS.keep sQ zQ) (q_move rfl) ?_
   clear hF; intro a hF
   refine goW_fork [22] kQ rfl ⟨?_, trivial⟩
   refine stepW_efg _ rfl (wanted_go 125 rfl rfl) rfl hF hS rfl (ef_bsliceA ty22 ty3 rfl rfl oQ (by decide) rfl rfl) ?_
   clear hF hS; rintro v_17_22 _ _ a w ⟨rfl, rfl⟩ hF hS
   refine ⟨⟨.inr (hS.keep sQ zQ), .inr (hS.keep sQ zQ), .inr (hS.keep sQ (zQ.k.n.n)), .inr (hS.keep sQ (zQ.k.n.n.n)), iQ, iQ, .inr (hS.keep sQ zQ), iQ, iQ, iQ, iQ, iQ, iQ, iQ, iQ, iQ, iQ, iQ, iQ, iQ, trivial⟩, ?_⟩
   refine goW_fork [23] kQ rfl ⟨?_, trivial⟩
   refine stepW_efg _ rfl (wanted_go 125 rfl rfl) rfl hF hS rfl (ef_qt (q_call fn25 rfl (fun w hS => gcheck_ct _ _ _ _ _ _ _ _ _ _ _ _ _ _ w (row_one (hS.own _ (List.mem_of_getElem? (i := 4) rfl)).1) (Sl.mono (hS.le (.inr (by simp))) hzS) (Sl.mono (hS.le (.inr (by simp))) hzB) (Sl.mono (hS.le (.inr (by simp))) hzU) (Sl.mono (hS.le (.inr (by simp))) hzM) (Sl.mono (hS.le (.inr (by simp))) hzT) (own_slV (f := vi) (xs := [15, 3, 11]) (hS.own _ (List.mem_of_getElem? (i := 0) rfl)).1 (by decide) rfl (by decide))) (fun _ _ _ h => h))) ?_
   clear hF hS; rintro _ _ _ a w ⟨rfl, rfl, rfl⟩ hF hS
   refine ⟨⟨iQ, iQ, iQ, iQ, iQ, iQ, .inr (hS.keep sQ zQ), iQ, iQ, iQ, iQ, iQ, iQ, iQ, iQ, iQ, iQ, iQ, iQ, iQ, trivial⟩, ?_⟩
   refine goW_takeg 24 _ rfl (wanted_go 125 rfl rfl) kQ rfl hF (hS.keep sQ zQ) (q_nf (q_nei rfl rfl) (Gp.lv_c2)) ?_
   clear hF; intro a hF
   refine goW_take 25 _ rfl kQ rfl hF (hS.keep sQ zQ) (q_pick_f rfl rfl) ?_
   clear hF; intro a hF
   exact goW_done kQ (j1_mk v_17_22 (trivial) (hF.sub (L' := [(5, _), (8, _), (9, _), (15, _), (133, _)]) ⟨rfl, rfl, rfl, rfl, rfl, trivial⟩) hS)
  rintro a w ⟨v_17_22, -, hF, hS⟩
  (try dsimp only at hF); (try dsimp only at hS)
  refine hK20 _ _ ?_
  clear hK20
  refine wp_if hF rfl (fun h => absurd h (by simp)) (fun _ => ?_)
  refine wp_skip ?_
  refine hK19 _ _ ?_
  clear hK19
  refine wp_seq_k ?_; intro K21 hK21
  refine regl ?_
  refine wpl_sq hF hS (sq rfl (q_move rfl) <|
    sq_end) ?_
  clear hF hS; intro a w hF hS
  refine wpl_ef hF hS rfl (ef_bsliceA ty22 ty3 rfl rfl oQ (by decide) rfl rfl) ?_
  clear hF hS; rintro v24 _ _ a w ⟨rfl, rfl⟩ hF hS
  replace hS : St _ [_, _, _, _, _, _, _] [_, _, _, _, _, _] _ := hS
  refine wpl_sq hF hS (sq rfl (q_dt (q_call fn17 rfl (fun w hS => samei_ct _ _ _ _ w (Sl.mono (hS.le (.inr (by simp))) hzA) (own_slV (f := vi) (xs := [0, 1, 3]) (hS.own _ (List.mem_of_getElem? (i := 0) rfl)).1 (by decide) rfl (by decide))) (fun _ _ _ h => h)) (rfl)) <|
    sq rfl (q_move rfl) <|
    sq_go 137 rfl rfl rfl (q_move rfl) <|
    sq_go 137 rfl rfl rfl (q_move rfl) <|
    sq_go 137 rfl rfl rfl (q_dt (q_call fn17 rfl (fun w hS => samei_ct _ _ _ _ w (Sl.mono (hS.le (.inr (by simp))) hzT) (Sl.mono (hS.le (.inr (by simp))) hzA)) (fun _ _ _ h => h)) (rfl)) <|
    sq rfl (q_pick_t rfl rfl) <|
    sq rfl (q_move rfl) <|
    sq_go 142 rfl rfl rfl (q_move rfl) <|
    sq_end) ?_
  clear hF hS; intro a w hF hS
  refine wpl_efg hF hS (wanted_go 142 rfl rfl) rfl (ef_bsliceA ty22 ty3 rfl rfl oQ (by decide) rfl rfl) ?_
  clear hF hS; rintro v26 _ _ a w ⟨rfl, rfl⟩ hF hS
  replace hS : St _ [_, _, _, _, _, _, _] [_, _, _, _, _, _, _] _ := hS
  refine wpl_sq hF hS (sq_go 142 rfl rfl rfl (q_dt (q_call fn17 rfl (fun w hS => samei_ct _ _ _ _ w (Sl.mono (hS.le (.inr (by simp))) hzK) (own_slV (f := vi) (xs := [15, 3, 7, 11]) (hS.own _ (List.mem_of_getElem? (i := 0) rfl)).1 (by decide) rfl (by decide))) (fun _ _ _ h => h)) (rfl)) <|
    sq rfl (q_pick_t rfl rfl) <|
    sq rfl (q_move rfl) <|
    sq_go 147 rfl rfl rfl (q_move rfl) <|
    sq_end) ?_
  clear hF hS; intro a w hF hS
  refine wpl_efg hF hS (wanted_go 147 rfl rfl) rfl (ef_bsliceA ty22 ty3 rfl rfl oQ (by decide) rfl rfl) ?_
  clear hF hS; rintro v28 _ _ a w ⟨rfl, rfl⟩ hF hS
  replace hS : St _ [_, _, _, _, _, _, _] [_, _, _, _, _, _, _, _] _ := hS
  refine wpl_sq hF hS (sq_go 147 rfl rfl rfl (q_dt (q_call fn17 rfl (fun w hS => samei_ct _ _ _ _ w (Sl.mono (hS.le (.inr (by simp))) hzR) (own_slV (f := vi) (xs := [3, 11]) (hS.own _ (List.mem_of_getElem? (i := 0) rfl)).1 (by decide) rfl (by decide))) (fun _ _ _ h => h)) (rfl)) <|
    sq rfl (q_pick_t rfl rfl) <|
    sq rfl (q_assign rfl) <|
    sq_end) ?_
  clear hF hS; intro a w hF hS
  refine wpList_nil ?_
  refine hK21 _ _ ?_
  clear hK21
  refine wp_ret ?_
  exact fn_ret (rs := [.tmp 0]) rfl hF hS (vs := [_]) ⟨rfl, trivial⟩ zQ zQ (rfl)
end Go.Proofs.Ytplceoanaoeejaa
