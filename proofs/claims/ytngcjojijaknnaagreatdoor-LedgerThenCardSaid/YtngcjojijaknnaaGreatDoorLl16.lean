/- A text of a proof over this seat: walks over the program's functions and the plain laws that they need. -/
import Derived.Test.YtngcjojijaknnaaGreatDoorLl15
import Derived.Test.YtngcjojijaknnaaGreatDoorLgA
import Derived.Test.YtngcjojijaknnaaGreatDoorFwB
set_option linter.all false
namespace Go.Proofs.YtngcjojijaknnaaGreatDoor
open Go.Fw
theorem fn34 : FnOk Tryz.prog 34 := ⟨_, Tryz.func34, rfl, by kernel_rfl⟩

attribute [local irreducible] Wi.int Wi.bytes Wi.getInt Wi.getBytes Sha.sum Jn.good Jn.hd Jn.lb Jn.cnt Jn.unp Jn.recd Jn.app Jn.opn Lg.dec Lg.enc Dk.new Lg.add Lg.taken Gu.arnd Lg.kn Lg.keys Mk.rootE

set_option maxRecDepth 4000 in
set_option maxHeartbeats 2000000 in
theorem llaw4_ct (va : Value) (l0 : List Int) (vm : Value) (m0 : List Int) (tick : Int) (ht : -9223372036854775808 ≤ tick ∧ tick ≤ 9223372036854775807) (w : World) (hb1 : Sl Go.Fw.encI (ph w) va l0) (hb2 : Sl Go.Fw.encI (ph w) vm m0) {fz0 : Nat × Nat} {bt0 : TypeId} (hg0 : w.heap[1]? = some (.cells (Sha.kc.map vw).toArray bt0 fz0)) : Ct Tryz.prog 6 [va, vm, vi tick] w (fun r _ _ => r = .bool true) := by
 refine fn_enter Tryz.func6 rfl Tryz.ntmps6 (Nat.le_of_ble_eq_true rfl) fun a hF hS => ?_
 have hbl := hb1.1
 have har := Gu.arnd_range (n := tick) (m := 3) (by decide)
 refine wp_seq_k ?_; intro K1 hK1
 refine reg hF hS (sq rfl (q_assign rfl) <|
   sq_end) ?_
 clear hF hS; intro a w hF hS
 refine hK1 _ _ ?_
 clear hK1
 refine wp_seq_k ?_; intro K2 hK2
 refine regl ?_
 refine wpl_sq hF hS (sq rfl (q_move rfl) <|
   sq_end) ?_
 clear hF hS; intro a w hF hS
 refine wpl_ef hF hS rfl (ef_call fn10 rfl (fun w hS => genf_ct _ _ w (Sl.mono (hS.le zin0) hb1))) ?_
 clear hF hS; rintro _ _ _ a w ⟨_, _, rfl, rfl, ⟨q2, z3, rfl, rfl, hz4, hg5⟩⟩ hF hS
 replace hS : St _ [_] [] _ := hS
 refine wpl_sq hF hS (sq rfl (q_assign rfl) <|
   sq_end) ?_
 clear hF hS; intro a w hF hS
 refine wpList_nil ?_
 obtain ⟨q, hqq⟩ : ∃ x, x = q2 := ⟨_, rfl⟩
 rw [← hqq] at hz4 hg5
 have hgq := hg5
 have hfil := Lg.Gen.fil hgq
 have hql := hgq.len
 refine hK2 _ _ ?_
 clear hK2
 refine wp_seq_k ?_; intro K3 hK3
 refine regl ?_
 refine wpl_sq hF hS (sq rfl (q_move rfl) <|
   sq_end) ?_
 clear hF hS; intro a w hF hS
 refine wpl_ef hF hS rfl (ef_call fn25 rfl (fun w hS => lfilled_ct _ _ (by assumption) w (Sl.mono (hS.le (.inr (by simp))) hz4) (hS.ext _ _ hg0))) ?_
 clear hF hS; rintro _ _ _ a w ⟨_, _, rfl, rfl, ⟨rfl, bl7, jb8, hh9, fv10, qa11, qb12, qc13, qd14, ua15, ub16, uc17, ud18, LL19, rfl, rfl, hJ20, hD21, hFl22⟩⟩ hF hS
 replace hS : St _ [_] [_, _, _, _, _, _, _, _, _, _] _ := hS
 refine wpl_sq hF hS (sq rfl (q_move rfl) <|
   sq rfl (q_extract rfl rfl) <|
   sq rfl (q_extract rfl rfl) <|
   sq rfl (q_extract rfl rfl) <|
   sq rfl (q_assign rfl) <|
   sq rfl (q_assign rfl) <|
   sq rfl (q_assign rfl) <|
   sq_end) ?_
 clear hF hS; intro a w hF hS
 refine wpList_nil ?_
 obtain ⟨LL, hLL⟩ : ∃ x, x = LL19 := ⟨_, rfl⟩
 rw [← hLL] at hS hJ20 hD21 hFl22
 have hFl := hFl22
 have hgF := hFl.good_F
 have hFq := hFl.F
 have hFql : LL.F.length ≤ 40 := by rw [hFq]; omega
 have hG := hgF.srt
 have hcr := Lg.clock_rg hgq
 rw [← hFq] at hcr
 refine hK3 _ _ ?_
 clear hK3
 refine wp_seq_k ?_; intro K4 hK4
 refine wp_seq_k ?_; intro K5 hK5
 refine reg hF hS (sq rfl (q_move rfl) <|
   sq rfl (q_not rfl) <|
   sq_end) ?_
 clear hF hS; intro a w hF hS
 refine hK5 _ _ ?_
 clear hK5
 refine wp_if hF rfl (fun h => absurd h (by simp)) (fun _ => ?_)
 refine wp_skip ?_
 refine hK4 _ _ ?_
 clear hK4
 refine wp_seq_k ?_; intro K6 hK6
 refine reg hF hS (sq rfl (q_move rfl) <|
   sq rfl (q_call fn33 rfl (fun w hS => clock_ct _ _ _ _ w (own_box hS 0 rfl) (own_slK (hl := Lg.fcC_len) (h1 := Lg.fcC_one) (hS.own _ (List.mem_of_getElem? (i := 1) rfl)).1 rfl (by first | omega | (simp; done)) (Lg.good_fc hgF))) (fun _ _ _ h => h)) <|
   sq rfl (q_move rfl) <|
   sq rfl (q_call fn11 rfl (fun w hS => arnd_ct _ _ (by omega) (by omega) w ) (fun _ _ _ h => h)) <|
   sq rfl (q_addi rfl rfl (by omega)) <|
   sq rfl (q_assign rfl) <|
   sq_end) ?_
 clear hF hS; intro a w hF hS
 obtain ⟨T, hT⟩ : ∃ x, x = Lg.clock LL.F + Gu.arnd tick 3 := ⟨_, rfl⟩
 rw [← hT] at hF
 have hT2 : Lg.clock q ≤ T ∧ T ≤ Lg.clock q + 2 := by rw [hFq] at hT; omega
 have hr16b := Lg.root_16 (Lg.lvs LL.F T)
 refine hK6 _ _ ?_
 clear hK6
 refine wp_seq_k ?_; intro K7 hK7
 refine regl ?_
 refine wpl_sq hF hS (sq rfl (q_move rfl) <|
   sq rfl (q_move rfl) <|
   sq rfl (q_call fn34 rfl (fun w hS => lroot_ct _ _ _ _ _ hG (by omega) w (own_box hS 0 rfl) (own_slK (hl := Lg.fcC_len) (h1 := Lg.fcC_one) (hS.own _ (List.mem_of_getElem? (i := 1) rfl)).1 rfl (by first | omega | (simp; done)) (Lg.good_fc hgF)) (hS.ext _ _ hg0)) (fun _ _ _ h => h)) <|
   sq_end) ?_
 clear hF hS; intro a w hF hS
 refine wpl_ef hF hS rfl (ef_allocA ty62) ?_
 clear hF hS; rintro _ _ _ a w ⟨b33, rfl, rfl, rfl⟩ hF hS
 rw [show List.replicate 16 (Value.int .u8 0) = (List.replicate 16 (0 : UInt8)).map vb from by rw [List.map_replicate] <;> rfl] at hS
 refine wpl_ef hF hS rfl (ef_storeW ty62 0 rfl rfl rfl rfl bQ oQ bQ) ?_
 clear hF hS; rintro _ _ _ a w ⟨rfl, rfl, rfl⟩ hF hS
 replace hS : St _ [_] [_, _, _, _, _, _, _, _, _, _, _] _ := hS
 refine wpList_nil ?_
 refine hK7 _ _ ?_
 clear hK7
 refine wp_seq_k ?_; intro K8 hK8
 refine regl ?_
 refine wpl_sq hF hS (sq rfl (q_move rfl) <|
   sq rfl (q_move rfl) <|
   sq_end) ?_
 clear hF hS; intro a w hF hS
 refine wpl_ef hF hS rfl (ef_call fn35 rfl (fun w hS => keys_ct _ _ _ _ _ hG (by omega) w (own_box hS 1 rfl) (own_slK (hl := Lg.fcC_len) (h1 := Lg.fcC_one) (hS.own _ (List.mem_of_getElem? (i := 2) rfl)).1 rfl (by first | omega | (simp; done)) (Lg.good_fc hgF)))) ?_
 clear hF hS; rintro v34 _ _ a w ⟨_, _, rfl, rfl, ⟨rfl, rfl⟩⟩ hF hS
 replace hS : St _ [_] [_, _, _, _, _, _, _, _, _, _, _, _] _ := hS
 refine wpl_sq hF hS (sq rfl (q_assign rfl) <|
   sq_end) ?_
 clear hF hS; intro a w hF hS
 refine wpList_nil ?_
 refine hK8 _ _ ?_
 clear hK8
 refine wp_seq_k ?_; intro K9 hK9
 refine regl ?_
 refine wpl_sq hF hS (sq rfl (q_move rfl) <|
   sq_end) ?_
 clear hF hS; intro a w hF hS
 refine wpl_ef hF hS rfl (ef_call fn10 rfl (fun w hS => genfR_ct _ _ w (Sl.mono (hS.le zin0) hb2))) ?_
 clear hF hS; rintro v36 _ _ a w ⟨_, _, rfl, rfl, ⟨q37, rfl, rfl, hg38⟩⟩ hF hS
 replace hS : St _ [_] [_, _, _, _, _, _, _, _, _, _, _, _, _] _ := hS
 refine wpl_sq hF hS (sq rfl (q_assign rfl) <|
   sq_end) ?_
 clear hF hS; intro a w hF hS
 refine wpList_nil ?_
 obtain ⟨mq, hmq⟩ : ∃ x, x = q37 := ⟨_, rfl⟩
 rw [← hmq] at hS hg38
 have hgm := hg38
 have hml := hgm.len
 have hA := Lg.then_fil hgq hgm hT2
 have hTr : 0 ≤ T ∧ T ≤ 26 := by rw [hFq] at hcr; omega
 refine hK9 _ _ ?_
 clear hK9
 refine wp_seq_k ?_; intro K10 hK10
 refine wp_seq_k ?_; intro K11 hK11
 refine reg hF hS (sq rfl (q_assign rfl) <|
   sq_end) ?_
 clear hF hS; intro a w hF hS
 refine hK11 _ _ ?_
 clear hK11
 refine wp_block ?_
 obtain ⟨hs0, hhs0, hS⟩ : ∃ h, h = _ ∧ St _ _ h _ := ⟨_, rfl, hS⟩
 refine wp_loopx (γ := Lg.Ld × Value × Res × Res × Res × Res × Res × Res × Res × Res × Nat) (LL, fv10, qa11, qb12, qc13, qd14, ua15, ub16, uc17, ud18, 0) (fun (gg : Lg.Ld × Value × Res × Res × Res × Res × Res × Res × Res × Res × Nat) => match gg with | (L, fv, p1, p2, p3, p4, qq1, qq2, qq3, qq4, j) => [(15, vi (j : Int))]) [(7, _), (8, _), (11, _), (12, _), (13, _), (14, _)] (fun (gg : Lg.Ld × Value × Res × Res × Res × Res × Res × Res × Res × Res × Nat) => match gg with | (L, fv, p1, p2, p3, p4, qq1, qq2, qq3, qq4, j) => (((((((((((hs0.set 3 (.blk bl7 119 [.pointer (some ⟨jb8, 0, none⟩), fv])).set 4 (.row fv 24 3 L.F.length (L.F.flatMap Lg.fcC))).set 5 (p1)).set 6 (p2)).set 7 (p3)).set 8 (p4)).set 9 (qq1)).set 10 (qq2)).set 11 (qq3)).set 12 (qq4)).set 0 (.row v36 24 3 mq.length ((Lg.mrs T mq j).flatMap Lg.fcC)))) (fun (gg : Lg.Ld × Value × Res × Res × Res × Res × Res × Res × Res × Res × Nat) => match gg with | (L, fv, p1, p2, p3, p4, qq1, qq2, qq3, qq4, j) => j ≤ mq.length ∧ JJ jb8 hh9.b L.J p1 p2 p3 p4 ∧ DD hh9 L.S qq1 qq2 qq3 qq4 ∧ Lg.Fld (q ++ (mq.take j).map (Lg.shf T)) L) (fun (gg : Lg.Ld × Value × Res × Res × Res × Res × Res × Res × Res × Res × Nat) => match gg with | (L, fv, p1, p2, p3, p4, qq1, qq2, qq3, qq4, j) => mq.length - j) (hF.sub ⟨rfl, rfl, rfl, rfl, rfl, rfl, rfl, trivial⟩) (by subst hhs0; exact hS) (by exact ⟨Nat.zero_le _, hJ20, hD21, by rw [List.take_zero, List.map_nil, List.append_nil]; exact hFl⟩) ?_
 clear hF hS; rintro ⟨L, fv, p1, p2, p3, p4, qq1, qq2, qq3, qq4, j⟩ a w hfact hF hS
 subst hhs0; (try dsimp only at hfact); (try dsimp only at hF); (try dsimp only at hS)
 obtain ⟨hj0, hJp, hDq, hFl2⟩ := hfact
 replace hS : St _ [_] [_, _, _, _, _, _, _, _, _, _, _, _, _] _ := hS
 refine wp_seq_k ?_; intro K12 hK12
 refine wp_seq_k ?_; intro K13 hK13
 refine reg hF hS (sq rfl (q_move rfl) <|
   sq rfl (q_move rfl) <|
   sq rfl (q_len_row ty26 0 rfl rfl) <|
   sq rfl (q_lti rfl rfl) <|
   sq_end) ?_
 clear hF hS; intro a w hF hS
 refine hK13 _ _ ?_
 clear hK13
 refine wp_ifd hF rfl (fun hc2 => ?_) (fun hc2 => ?_)
 ·obtain ⟨hfc9, L2, hA9, hFl3⟩ := Lg.then_next hA hFl2 (by omega)
  have hgF2 := hFl2.good_F
  have hmt := Lg.mrs_len T mq j
  have hmt2 := Lg.mrs_len T mq (j + 1)
  have hma := Lg.mrs_at2 (T := T) (m := mq) (j := j) (by omega)
  have hmlo : 0 ≤ ((Lg.mrs T mq j).getD (j : Int).toNat Lg.f0).tk ∧ ((Lg.mrs T mq j).getD (j : Int).toNat Lg.f0).tk ≤ 24 := by
   rw [hma]
   exact ⟨(Lg.valid_0 (hgm.good.ok _ (Lg.fq_mem (by omega)))).1.1, hgm.low _ (Lg.fq_mem (by omega))⟩
  refine wp_skip ?_
  refine hK12 _ _ ?_
  clear hK12
  refine wp_seq_k ?_; intro K14 hK14
  refine wp_block ?_
  refine wp_seq_k ?_; intro K15 hK15
  refine regl ?_
  refine wpl_sq hF hS (sq rfl (q_move rfl) <|
    sq rfl (q_move rfl) <|
    sq rfl (q_move rfl) <|
    sq rfl (q_move rfl) <|
    sq rfl (q_idx_row ty26 ty24 0 rfl rfl rfl (by omega)) <|
    sq rfl (q_fld_row ty24 0 rfl rfl (by omega) rfl (s' := 0) kQ) <|
    sq rfl (q_ld_rowK1 Lg.fcC_len Lg.f0 ty3 0 rfl rfl rfl (by omega) (by decide) rfl) <|
    sq rfl (q_move rfl) <|
    sq rfl (q_addi rfl rfl (by omega)) <|
    sq rfl (q_addi rfl rfl (by omega)) <|
    sq rfl (q_idx_row ty26 ty24 0 rfl rfl rfl (by omega)) <|
    sq rfl (q_fld_row ty24 0 rfl rfl (by omega) rfl (s' := 0) kQ) <|
    sq_end) ?_
  clear hF hS; intro a w hF hS
  refine wpl_ef hF hS rfl (ef_st_rowK (x' := (⟨((Lg.mrs T mq j).getD (j : Int).toNat Lg.f0).tk + T + 1, (mq.getD j Lg.f0).ky, (mq.getD j Lg.f0).vl⟩ : Lg.Fct)) Lg.fcC_len ty3 0 rfl rfl rfl (Lg.mrs_get (by omega)) (by decide) rfl rfl) ?_
  clear hF hS; rintro _ _ _ a w ⟨rfl, rfl, rfl⟩ hF hS
  replace hS : St _ [_] [_, _, _, _, _, _, _, _, _, _, _, _, _] _ := hS
  refine wpList_nil ?_
  rw [Lg.mrs_set2 (by omega)] at hS
  refine hK15 _ _ ?_
  clear hK15
  refine wp_seq_k ?_; intro K16 hK16
  refine regl ?_
  refine wpl_sq hF hS (sq rfl (q_move rfl) <|
    sq rfl (q_move rfl) <|
    sq rfl (q_move rfl) <|
    sq rfl (q_idx_row ty26 ty24 0 rfl rfl rfl (by omega)) <|
    sq rfl (q_ld_rowKW Lg.fcC_len Lg.f0 ty24 0 rfl rfl rfl (by decide) (by omega)) <|
    sq_end) ?_
  clear hF hS; intro a w hF hS
  replace hS := hS.perm (.cons _ (.cons _ (.swap _ _ _)))
  replace hS := hS.perm (.cons _ (.swap _ _ _))
  replace hS := hS.perm (.swap _ _ _)
  replace hS := hS.perm (.cons _ (.cons _ (.cons _ (.swap _ _ _))))
  replace hS := hS.perm (.cons _ (.cons _ (.swap _ _ _)))
  replace hS := hS.perm (.cons _ (.swap _ _ _))
  replace hS := hS.perm (.cons _ (.cons _ (.cons _ (.cons _ (.swap _ _ _)))))
  replace hS := hS.perm (.cons _ (.cons _ (.cons _ (.swap _ _ _))))
  replace hS := hS.perm (.cons _ (.cons _ (.swap _ _ _)))
  replace hS := hS.perm (.cons _ (.cons _ (.cons _ (.cons _ (.cons _ (.swap _ _ _))))))
  replace hS := hS.perm (.cons _ (.cons _ (.cons _ (.cons _ (.swap _ _ _)))))
  replace hS := hS.perm (.cons _ (.cons _ (.cons _ (.swap _ _ _))))
  replace hS := hS.perm (.cons _ (.cons _ (.cons _ (.cons _ (.cons _ (.cons _ (.swap _ _ _)))))))
  replace hS := hS.perm (.cons _ (.cons _ (.cons _ (.cons _ (.cons _ (.swap _ _ _))))))
  replace hS := hS.perm (.cons _ (.cons _ (.cons _ (.cons _ (.swap _ _ _)))))
  replace hS := hS.perm (.cons _ (.cons _ (.cons _ (.cons _ (.cons _ (.cons _ (.cons _ (.swap _ _ _))))))))
  replace hS := hS.perm (.cons _ (.cons _ (.cons _ (.cons _ (.cons _ (.cons _ (.swap _ _ _)))))))
  replace hS := hS.perm (.cons _ (.cons _ (.cons _ (.cons _ (.cons _ (.swap _ _ _))))))
  replace hS := hS.perm (.cons _ (.cons _ (.cons _ (.cons _ (.cons _ (.cons _ (.cons _ (.cons _ (.swap _ _ _)))))))))
  replace hS := hS.perm (.cons _ (.cons _ (.cons _ (.cons _ (.cons _ (.cons _ (.cons _ (.swap _ _ _))))))))
  replace hS := hS.perm (.cons _ (.cons _ (.cons _ (.cons _ (.cons _ (.cons _ (.swap _ _ _)))))))
  replace hS := hS.perm (.cons _ (.cons _ (.cons _ (.cons _ (.cons _ (.cons _ (.cons _ (.cons _ (.cons _ (.swap _ _ _))))))))))
  replace hS := hS.perm (.cons _ (.cons _ (.cons _ (.cons _ (.cons _ (.cons _ (.cons _ (.cons _ (.swap _ _ _)))))))))
  replace hS := hS.perm (.cons _ (.cons _ (.cons _ (.cons _ (.cons _ (.cons _ (.cons _ (.swap _ _ _))))))))
  replace hS := hS.perm (.cons _ (.cons _ (.cons _ (.cons _ (.cons _ (.cons _ (.cons _ (.cons _ (.cons _ (.cons _ (.swap _ _ _)))))))))))
  replace hS := hS.perm (.cons _ (.cons _ (.cons _ (.cons _ (.cons _ (.cons _ (.cons _ (.cons _ (.cons _ (.swap _ _ _))))))))))
  replace hS := hS.perm (.cons _ (.cons _ (.cons _ (.cons _ (.cons _ (.cons _ (.cons _ (.cons _ (.swap _ _ _)))))))))
  replace hS := hS.perm (.cons _ (.cons _ (.cons _ (.cons _ (.cons _ (.cons _ (.cons _ (.cons _ (.cons _ (.cons _ (.cons _ (.swap _ _ _))))))))))))
  replace hS := hS.perm (.cons _ (.cons _ (.cons _ (.cons _ (.cons _ (.cons _ (.cons _ (.cons _ (.cons _ (.cons _ (.swap _ _ _)))))))))))
  replace hS := hS.perm (.cons _ (.cons _ (.cons _ (.cons _ (.cons _ (.cons _ (.cons _ (.cons _ (.cons _ (.swap _ _ _))))))))))
  replace hS : St _ [_] [_, _, _, _, _, _, _, _, _, _, _, _, _] _ := hS
  refine wpl_ef hF hS rfl (ef_callx fn36 rfl (List.Perm.refl _) (by exact (ladd_ct _ _ _ L _ hfc9.1 hfc9.2 _ _ hg0 (by assumption) hJp hDq (fv := fv)))) ?_
  clear hF hS; rintro _ _ _ a w ⟨_, _, rfl, rfl, ⟨rfl, rfl, fv41, qa42, qb43, qc44, qd45, ua46, ub47, uc48, ud49, rfl, hJ50, hD51⟩⟩ hF hS
  replace hS : St _ [_] [_, _, _, _, _, _, _, _, _, _, _, _, _] _ := hS
  replace hS : St _ [_] [_, _, _, _, _, _, _, _, _, _, _, _, _] _ := (hS)
  rw [hA9] at hJ50
  rw [hA9] at hD51
  rw [hA9] at hS
  rw [hA9] at hF
  (try dsimp only at hF)
  replace hS : St _ [_] [_, _, _, _, _, _, _, _, _, _, _, _, _] _ := hS
  refine wpl_sq hF hS (sq rfl (q_nf (q_nei rfl rfl) (by simp)) <|
    sq_end) ?_
  clear hF hS; intro a w hF hS
  refine wpList_nil ?_
  refine hK16 _ _ ?_
  clear hK16
  refine wp_if hF rfl (fun h => absurd h (by simp)) (fun _ => ?_)
  refine wp_skip ?_
  refine hK14 _ _ ?_
  clear hK14
  refine reg hF hS (sq rfl (q_move rfl) <|
    sq rfl (q_addi rfl rfl (by omega)) <|
    sq rfl (q_assign rfl) <|
    sq_end) ?_
  clear hF hS; intro a w hF hS
  replace hS := hS.perm (.cons _ (.cons _ (.cons _ (.cons _ (.cons _ (.cons _ (.cons _ (.cons _ (.cons _ (.swap _ _ _))))))))))
  replace hS := hS.perm (.cons _ (.cons _ (.cons _ (.cons _ (.cons _ (.cons _ (.cons _ (.cons _ (.swap _ _ _)))))))))
  replace hS := hS.perm (.cons _ (.cons _ (.cons _ (.cons _ (.cons _ (.cons _ (.cons _ (.swap _ _ _))))))))
  replace hS := hS.perm (.cons _ (.cons _ (.cons _ (.cons _ (.cons _ (.cons _ (.swap _ _ _)))))))
  replace hS := hS.perm (.cons _ (.cons _ (.cons _ (.cons _ (.cons _ (.swap _ _ _))))))
  replace hS := hS.perm (.cons _ (.cons _ (.cons _ (.cons _ (.swap _ _ _)))))
  replace hS := hS.perm (.cons _ (.cons _ (.cons _ (.swap _ _ _))))
  replace hS := hS.perm (.cons _ (.cons _ (.swap _ _ _)))
  replace hS := hS.perm (.cons _ (.swap _ _ _))
  replace hS := hS.perm (.swap _ _ _)
  replace hS := hS.perm (.cons _ (.cons _ (.cons _ (.cons _ (.cons _ (.cons _ (.cons _ (.cons _ (.cons _ (.cons _ (.swap _ _ _)))))))))))
  replace hS := hS.perm (.cons _ (.cons _ (.cons _ (.cons _ (.cons _ (.cons _ (.cons _ (.cons _ (.cons _ (.swap _ _ _))))))))))
  replace hS := hS.perm (.cons _ (.cons _ (.cons _ (.cons _ (.cons _ (.cons _ (.cons _ (.cons _ (.swap _ _ _)))))))))
  replace hS := hS.perm (.cons _ (.cons _ (.cons _ (.cons _ (.cons _ (.cons _ (.cons _ (.swap _ _ _))))))))
  replace hS := hS.perm (.cons _ (.cons _ (.cons _ (.cons _ (.cons _ (.cons _ (.swap _ _ _)))))))
  replace hS := hS.perm (.cons _ (.cons _ (.cons _ (.cons _ (.cons _ (.swap _ _ _))))))
  replace hS := hS.perm (.cons _ (.cons _ (.cons _ (.cons _ (.swap _ _ _)))))
  replace hS := hS.perm (.cons _ (.cons _ (.cons _ (.swap _ _ _))))
  replace hS := hS.perm (.cons _ (.cons _ (.swap _ _ _)))
  replace hS := hS.perm (.cons _ (.swap _ _ _))
  replace hS := hS.perm (.cons _ (.cons _ (.cons _ (.cons _ (.cons _ (.cons _ (.cons _ (.cons _ (.cons _ (.cons _ (.cons _ (.swap _ _ _))))))))))))
  replace hS := hS.perm (.cons _ (.cons _ (.cons _ (.cons _ (.cons _ (.cons _ (.cons _ (.cons _ (.cons _ (.cons _ (.swap _ _ _)))))))))))
  replace hS := hS.perm (.cons _ (.cons _ (.cons _ (.cons _ (.cons _ (.cons _ (.cons _ (.cons _ (.cons _ (.swap _ _ _))))))))))
  replace hS := hS.perm (.cons _ (.cons _ (.cons _ (.cons _ (.cons _ (.cons _ (.cons _ (.cons _ (.swap _ _ _)))))))))
  replace hS := hS.perm (.cons _ (.cons _ (.cons _ (.cons _ (.cons _ (.cons _ (.cons _ (.swap _ _ _))))))))
  replace hS := hS.perm (.cons _ (.cons _ (.cons _ (.cons _ (.cons _ (.cons _ (.swap _ _ _)))))))
  replace hS := hS.perm (.cons _ (.cons _ (.cons _ (.cons _ (.cons _ (.swap _ _ _))))))
  replace hS := hS.perm (.cons _ (.cons _ (.cons _ (.cons _ (.swap _ _ _)))))
  replace hS := hS.perm (.cons _ (.cons _ (.cons _ (.swap _ _ _))))
  replace hS := hS.perm (.cons _ (.cons _ (.swap _ _ _)))
  replace hS := hS.keep sQ sQ
  refine ⟨(L2, fv41, qa42, qb43, qc44, qd45, ua46, ub47, uc48, ud49, j + 1), ?_, ?_, hF.sub ⟨rfl, rfl, rfl, rfl, rfl, rfl, rfl, trivial⟩, ?_⟩
  ·(try dsimp only); omega
  ·exact ⟨by omega, hJ50, hD51, hFl3⟩
  ·exact hS
 ·obtain rfl : j = mq.length := by omega
  rw [List.take_length] at hFl2
  have hL2 := hFl2.F
  have hgL := hFl2.good_F
  have hLl : L.F.length = q.length + mq.length := by rw [hL2, List.length_append, List.length_map]
  have hlv : Lg.lvs L.F T = Lg.lvs LL.F T := by rw [hL2, hFq]; exact Lg.lvs_more (Lg.then_hi hgm T)
  have hky : Lg.keys L.F T = Lg.keys LL.F T := by rw [hL2, hFq]; exact Lg.keys_more (Lg.then_hi hgm T)
  clear hG
  have hG := hgL.srt
  have hkl1 := Lg.keys_le L.F T
  have hkl2 := Lg.keys_le LL.F T
  have hk1 := Lg.keys_short (Lg.good_fc hgL) T
  have hk2 := Lg.keys_short (Lg.good_fc hgF) T
  have hr16 := fun t => Lg.root_16 (Lg.lvs L.F t)
  have hr16a := hr16 T
  have hcl := Lg.clock_hi hgL
  refine wp_exit ?_
  refine hK10 _ _ ?_
  clear hK10
  refine wp_seq_k ?_; intro K17 hK17
  refine wp_seq_k ?_; intro K18 hK18
  revert hS; revert hF; apply regJ (J := J2 (α0 := Value) (α1 := Value) 181 _ _ _ _ _) #[false, false, false, false, false, false, false, false, false, false, false, false, false, false, false, false, false, false, false, false, false, false, false, false] 24 mixed rfl rfl
  ·intro w hF hS
   refine goW_take 0 _ rfl kQ rfl hF (hS.keep sQ zQ) (q_move rfl) ?_
   clear hF; intro a hF
   refine goW_take 1 _ rfl kQ rfl hF (hS.keep sQ zQ) (q_move rfl) ?_
   clear hF; intro a hF
   refine goW_take 3 _ rfl kQ rfl hF (hS.keep sQ (zQ.k.n.n)) (q_ld_blkW ty62 0 rfl rfl bQ rfl) ?_
   clear hF; intro a hF
   refine gQ 2 rfl rfl hF hS rfl (ef_qt (q_call fn34 rfl (fun w hS => lroot_ct _ _ _ _ _ hG (by omega) w (own_box hS 3 rfl) (own_slK (hl := Lg.fcC_len) (h1 := Lg.fcC_one) (hS.own _ (List.mem_of_getElem? (i := 4) rfl)).1 rfl (by first | omega | (simp; done)) (Lg.good_fc hgL)) (hS.ext _ _ hg0)) (fun _ _ _ h => h))) ?_
   clear hF hS; rintro _ _ _ a w ⟨rfl, rfl, rfl⟩ hF hS
   refine ⟨⟨.inr (hS.keep sQ (zQ.k.n.n)), iQ, iQ, trivial⟩, ?_⟩
   refine goW_take 4 _ rfl kQ rfl hF (hS.keep sQ zQ) (q_nf (q_neAB ty62 ty5 kQ rfl rfl bQ bQ) (by rw [hlv])) ?_
   clear hF; intro a hF
   refine goW_take 5 _ rfl kQ rfl hF (hS.keep sQ zQ) (q_move rfl) ?_
   clear hF; intro a hF
   refine goW_takeg 6 _ rfl (wanted_go 79 rfl rfl) kQ rfl hF (hS.keep sQ zQ) (q_move rfl) ?_
   clear hF; intro a hF
   refine goW_takeg 7 _ rfl (wanted_go 79 rfl rfl) kQ rfl hF (hS.keep sQ zQ) (q_move rfl) ?_
   clear hF; intro a hF
   refine goW_takeg 9 _ rfl (wanted_go 79 rfl rfl) kQ rfl hF (hS.keep sQ zQ) (q_move rfl) ?_
   clear hF; intro a hF
   refine goW_fork [8] kQ rfl ⟨?_, trivial⟩
   refine stepW_efg _ rfl (wanted_go 79 rfl rfl) rfl hF hS rfl (ef_call fn35 rfl (fun w hS => keys_ct _ _ _ _ _ hG (by omega) w (own_box hS 3 rfl) (own_slK (hl := Lg.fcC_len) (h1 := Lg.fcC_one) (hS.own _ (List.mem_of_getElem? (i := 4) rfl)).1 rfl (by first | omega | (simp; done)) (Lg.good_fc hgL)))) ?_
   clear hF hS; rintro v_15_8 _ _ a w ⟨_, _, rfl, rfl, ⟨rfl, rfl⟩⟩ hF hS
   refine ⟨⟨.inr (hS.keep sQ zQ), iQ, iQ, iQ, iQ, .inr (hS.keep sQ (zQ.k.n.n.n)), iQ, iQ, trivial⟩, ?_⟩
   refine goW_fork [10] kQ rfl ⟨?_, trivial⟩
   refine stepW_efg _ rfl (wanted_go 79 rfl rfl) rfl hF hS rfl (ef_qt (q_call fn37 rfl (fun w hS => samet_ct _ _ _ _ w (own_slV (f := vs) (xs := (Lg.keys L.F T)) (hS.own _ (List.mem_of_getElem? (i := 0) rfl)).1 (hk1) rfl (by first | decide | omega)) (own_slV (f := vs) (xs := (Lg.keys LL.F T)) (hS.own _ (List.mem_of_getElem? (i := 2) rfl)).1 (hk2) rfl (by first | decide | omega))) (fun _ _ _ h => h))) ?_
   clear hF hS; rintro _ _ _ a w ⟨rfl, rfl, rfl⟩ hF hS
   refine ⟨⟨iQ, iQ, iQ, iQ, iQ, .inr (hS.keep sQ (zQ.k.n.n.n)), iQ, iQ, trivial⟩, ?_⟩
   refine goW_takeg 11 _ rfl (wanted_go 79 rfl rfl) kQ rfl hF (hS.keep sQ zQ) (q_nf (q_not rfl) (by rw [hky])) ?_
   clear hF; intro a hF
   refine goW_take 12 _ rfl kQ rfl hF (hS.keep sQ zQ) (q_pick_f rfl rfl) ?_
   clear hF; intro a hF
   refine goW_take 13 _ rfl kQ rfl hF (hS.keep sQ zQ) (q_move rfl) ?_
   clear hF; intro a hF
   refine goW_takeg 14 _ rfl (wanted_go 87 rfl rfl) kQ rfl hF (hS.keep sQ zQ) (q_move rfl) ?_
   clear hF; intro a hF
   refine goW_takeg 17 _ rfl (wanted_go 87 rfl rfl) kQ rfl hF (hS.keep sQ zQ) (q_move rfl) ?_
   clear hF; intro a hF
   refine goW_takeg 18 _ rfl (wanted_go 87 rfl rfl) kQ rfl hF (hS.keep sQ zQ) (q_len_sl ty26 hz4 rfl) ?_
   clear hF; intro a hF
   refine goW_takeg 19 _ rfl (wanted_go 87 rfl rfl) kQ rfl hF (hS.keep sQ zQ) (q_move rfl) ?_
   clear hF; intro a hF
   refine goW_takeg 20 _ rfl (wanted_go 87 rfl rfl) kQ rfl hF (hS.keep sQ (zQ.k.n)) (q_len_row ty26 0 rfl rfl) ?_
   clear hF; intro a hF
   refine goW_takeg 21 _ rfl (wanted_go 87 rfl rfl) kQ rfl hF (hS.keep sQ zQ) (q_addi rfl rfl (by omega)) ?_
   clear hF; intro a hF
   refine goW_fork [15] kQ rfl ⟨?_, trivial⟩
   refine stepW_efg _ rfl (wanted_go 87 rfl rfl) rfl hF hS rfl (ef_call fn26 rfl (fun w hS => facts_ct _ _ _ _ (by omega) w (own_box hS 4 rfl) (own_slK (hl := Lg.fcC_len) (h1 := Lg.fcC_one) (hS.own _ (List.mem_of_getElem? (i := 5) rfl)).1 rfl (by first | omega | (simp; done)) (Lg.good_fc hgL)))) ?_
   clear hF hS; rintro v_15_15 _ _ a w ⟨_, _, rfl, rfl, ⟨rfl, rfl⟩⟩ hF hS
   refine ⟨⟨.inr (hS.keep sQ zQ), .inr (hS.keep sQ (zQ.k.n.n)), .inr (hS.keep sQ zQ), .inr (hS.keep sQ zQ), .inr (hS.keep sQ zQ), iQ, iQ, iQ, .inr (hS.keep sQ zQ), iQ, iQ, iQ, iQ, iQ, .inr (hS.keep sQ (zQ.k.n.n.n.n)), iQ, iQ, trivial⟩, ?_⟩
   refine goW_takeg 16 _ rfl (wanted_go 87 rfl rfl) kQ rfl hF (hS.keep sQ (zQ.k)) (q_len_row ty26 0 rfl rfl) ?_
   clear hF; intro a hF
   refine goW_takeg 22 _ rfl (wanted_go 87 rfl rfl) kQ rfl hF (hS.keep sQ zQ) (q_nf (q_nei rfl rfl) (by rw [hLl]; omega)) ?_
   clear hF; intro a hF
   refine goW_take 23 _ rfl kQ rfl hF (hS.keep sQ zQ) (q_pick_f rfl rfl) ?_
   clear hF; intro a hF
   exact goW_done kQ (j2_mk v_15_8 v_15_15 (trivial) (hF.sub (L' := [(8, _), (97, _)]) ⟨rfl, rfl, trivial⟩) hS)
  rintro a w ⟨v_15_8, v_15_15, -, hF, hS⟩
  (try dsimp only at hF); (try dsimp only at hS)
  refine hK18 _ _ ?_
  clear hK18
  refine wp_if hF rfl (fun h => absurd h (by simp)) (fun _ => ?_)
  refine wp_skip ?_
  refine hK17 _ _ ?_
  clear hK17
  refine wp_seq_k ?_; intro K19 hK19
  refine regl ?_
  refine wpl_sq hF hS (sq rfl (q_move rfl) <|
    sq_end) ?_
  clear hF hS; intro a w hF hS
  refine wpl_ef hF hS rfl (ef_call fn26 rfl (fun w hS => facts_ct _ _ _ _ (by omega) w (own_box hS 5 rfl) (own_slK (hl := Lg.fcC_len) (h1 := Lg.fcC_one) (hS.own _ (List.mem_of_getElem? (i := 6) rfl)).1 rfl (by first | omega | (simp; done)) (Lg.good_fc hgL)))) ?_
  clear hF hS; rintro v52 _ _ a w ⟨_, _, rfl, rfl, ⟨rfl, rfl⟩⟩ hF hS
  replace hS : St _ [_] [_, _, _, _, _, _, _, _, _, _, _, _, _, _, _, _] _ := hS
  refine wpl_sq hF hS (sq rfl (q_assign rfl) <|
    sq_end) ?_
  clear hF hS; intro a w hF hS
  refine wpList_nil ?_
  obtain ⟨za, hza, hS⟩ := St.freezeY (xs := L.F) hS rfl (by omega) (Lg.good_fc hgL)
  replace hS : St _ [_, _] [_, _, _, _, _, _, _, _, _, _, _, _, _, _, _] _ := hS
  refine hK19 _ _ ?_
  clear hK19
  refine wp_seq_k ?_; intro K20 hK20
  refine wp_seq_k ?_; intro K21 hK21
  refine reg hF hS (sq rfl (q_assign rfl) <|
    sq_end) ?_
  clear hF hS; intro a w hF hS
  refine hK21 _ _ ?_
  clear hK21
  refine wp_block ?_
  obtain ⟨hs0, hhs0, hS⟩ : ∃ h, h = _ ∧ St _ _ h _ := ⟨_, rfl, hS⟩
  refine wp_loopx (γ := Nat) (0) (fun (k : Nat) => [(17, vi (k : Int))]) [(8, _), (16, _)] (fun (k : Nat) => hs0) (fun (k : Nat) => k ≤ 80) (fun (k : Nat) => 80 - k) (hF.sub ⟨rfl, rfl, rfl, trivial⟩) (by subst hhs0; exact hS) (by exact Nat.zero_le _) ?_
  clear hF hS; rintro k a w hfact hF hS
  subst hhs0; (try dsimp only at hfact); (try dsimp only at hF); (try dsimp only at hS)
  have hk0 := hfact
  replace hS : St _ [_, _] [_, _, _, _, _, _, _, _, _, _, _, _, _, _, _] _ := hS
  refine wp_seq_k ?_; intro K22 hK22
  refine wp_seq_k ?_; intro K23 hK23
  refine regl ?_
  refine wpl_sq hF hS (sq rfl (q_move rfl) <|
    sq rfl (q_move rfl) <|
    sq rfl (q_call fn33 rfl (fun w hS => clock_ct _ _ _ _ w (own_box hS 5 rfl) (own_slK (hl := Lg.fcC_len) (h1 := Lg.fcC_one) (hS.own _ (List.mem_of_getElem? (i := 6) rfl)).1 rfl (by first | omega | (simp; done)) (Lg.good_fc hgL))) (fun _ _ _ h => h)) <|
    sq rfl (q_lei rfl rfl) <|
    sq rfl (q_move rfl) <|
    sq_end) ?_
  clear hF hS; intro a w hF hS
  refine wpl_and 4 104 2 hF hS rfl rfl rfl rfl rfl (fun hg => have hg := (by first | exact of_decide_eq_true hg | exact hg); sq_go 104 rfl rfl rfl (q_move rfl) <|
    sq_go 104 rfl rfl rfl (q_lti rfl rfl) <|
    sq_end) rfl rfl ?_
  clear hF hS; intro a w hF hS
  refine wpList_nil ?_
  refine hK23 _ _ ?_
  clear hK23
  refine wp_if hF rfl (fun hc5 => ?_) (fun hc5 => ?_)
  ·(try simp only [Bool.or_eq_true, Bool.and_eq_true, Bool.or_eq_false_iff, Bool.and_eq_false_iff, decide_eq_true_eq, decide_eq_false_iff_not, Bool.not_eq_true', Bool.not_eq_false'] at hc5)
   have hra := hr16 (k : Int)
   have hrb := hr16 ((k : Int) - 1)
   have hkk := Lg.keys_le L.F (k : Int)
   refine wp_skip ?_
   refine hK22 _ _ ?_
   clear hK22
   refine wp_seq_k ?_; intro K24 hK24
   refine wp_block ?_
   refine wp_seq_k ?_; intro K25 hK25
   refine reg hF hS (sq rfl (q_move rfl) <|
     sq rfl (q_eqi rfl rfl) <|
     sq rfl (q_assign rfl) <|
     sq_end) ?_
   clear hF hS; intro a w hF hS
   refine hK25 _ _ ?_
   clear hK25
   refine wp_seq_k ?_; intro K26 hK26
   refine wp_seq_k ?_; intro K27 hK27
   refine reg hF hS (sq rfl (q_assign rfl) <|
     sq_end) ?_
   clear hF hS; intro a w hF hS
   refine hK27 _ _ ?_
   clear hK27
   refine wp_block ?_
   obtain ⟨hs0, hhs0, hS⟩ : ∃ h, h = _ ∧ St _ _ h _ := ⟨_, rfl, hS⟩
   refine wp_loopx (γ := Bool × Nat) ((decide ((k : Int) = 0)), 0) (fun (gg : Bool × Nat) => match gg with | (ch, i) => [(18, .bool ch), (19, vi (i : Int))]) [(8, _), (16, _), (17, _)] (fun (gg : Bool × Nat) => match gg with | (ch, i) => hs0) (fun (gg : Bool × Nat) => match gg with | (ch, i) => i ≤ L.F.length ∧ (ch = false → (k : Int) ≠ 0 ∧ ∀ n, n < i → (L.F.getD n Lg.f0).tk ≠ (k : Int))) (fun (gg : Bool × Nat) => match gg with | (ch, i) => L.F.length - i) (hF.sub ⟨rfl, rfl, rfl, rfl, rfl, trivial⟩) (by subst hhs0; exact hS) (by exact ⟨Nat.zero_le _, fun h => ⟨of_decide_eq_false h, fun n hn => absurd hn (Nat.not_lt_zero _)⟩⟩) ?_
   clear hF hS; rintro ⟨ch, i⟩ a w hfact hF hS
   subst hhs0; (try dsimp only at hfact); (try dsimp only at hF); (try dsimp only at hS)
   obtain ⟨hi0, hch⟩ := hfact
   replace hS : St _ [_, _] [_, _, _, _, _, _, _, _, _, _, _, _, _, _, _] _ := hS
   refine wp_seq_k ?_; intro K28 hK28
   refine wp_seq_k ?_; intro K29 hK29
   refine reg hF hS (sq rfl (q_move rfl) <|
     sq rfl (q_move rfl) <|
     sq rfl (q_len_sl ty26 hza rfl) <|
     sq rfl (q_lti rfl rfl) <|
     sq_end) ?_
   clear hF hS; intro a w hF hS
   refine hK29 _ _ ?_
   clear hK29
   refine wp_ifd hF rfl (fun hc6 => ?_) (fun hc6 => ?_)
   ·refine wp_skip ?_
    refine hK28 _ _ ?_
    clear hK28
    refine wp_seq_k ?_; intro K30 hK30
    refine wp_block ?_
    refine regl ?_
    refine wpl_sq hF hS (sq rfl (q_move rfl) <|
      sq rfl (q_move rfl) <|
      sq_end) ?_
    clear hF hS; intro a w hF hS
    refine wpl_or 1 119 7 hF hS rfl rfl rfl rfl rfl (fun hg => have hg := hg; sq_go 119 rfl rfl rfl (q_move rfl) <|
      sq_go 119 rfl rfl rfl (q_move rfl) <|
      sq_go 119 rfl rfl rfl (q_idx_sl ty26 ty24 hza rfl rfl (by omega)) <|
      sq_go 119 rfl rfl rfl (q_fld_Y ty24 hza rfl (by omega) rfl (s' := 0) kQ) <|
      sq_go 119 rfl rfl rfl (q_ld_Y0 ty3 hza (.inr (by simp)) rfl rfl (by omega)) <|
      sq_go 119 rfl rfl rfl (q_move rfl) <|
      sq_go 119 rfl rfl rfl (q_eqi rfl rfl) <|
      sq_end) rfl rfl ?_
    clear hF hS; intro a w hF hS
    refine wpl_sq hF hS (sq rfl (q_assign rfl) <|
      sq_end) ?_
    clear hF hS; intro a w hF hS
    refine wpList_nil ?_
    refine hK30 _ _ ?_
    clear hK30
    refine reg hF hS (sq rfl (q_move rfl) <|
      sq rfl (q_addi rfl rfl (by omega)) <|
      sq rfl (q_assign rfl) <|
      sq_end) ?_
    clear hF hS; intro a w hF hS
    refine ⟨((ch || decide ((L.F.getD (i : Int).toNat Lg.f0).tk = (k : Int))), i + 1), ?_, ?_, hF.sub ⟨rfl, rfl, rfl, rfl, rfl, trivial⟩, ?_⟩
    ·(try dsimp only); omega
    ·exact ⟨by omega, fun h => Lg.ch_step hch h⟩
    ·exact hS
   ·obtain rfl : i = L.F.length := by omega
    refine wp_exit ?_
    refine hK26 _ _ ?_
    clear hK26
    refine wp_seq_k ?_; intro K31 hK31
    refine wp_seq_k ?_; intro K32 hK32
    refine regl ?_
    refine wpl_sq hF hS (sq rfl (q_move rfl) <|
      sq rfl (q_not rfl) <|
      sq rfl (q_move rfl) <|
      sq_end) ?_
    clear hF hS; intro a w hF hS
    refine wpl_and 2 130 8 hF hS rfl rfl rfl rfl rfl (fun hg => have hg := hg; sq_go 130 rfl rfl rfl (q_move rfl) <|
      sq_go 130 rfl rfl rfl (q_move rfl) <|
      sq_go 130 rfl rfl rfl (q_call fn34 rfl (fun w hS => lroot_ct _ _ _ _ _ hG (by omega) w (own_box hS 5 rfl) (own_slK (hl := Lg.fcC_len) (h1 := Lg.fcC_one) (hS.own _ (List.mem_of_getElem? (i := 6) rfl)).1 rfl (by first | omega | (simp; done)) (Lg.good_fc hgL)) (hS.ext _ _ hg0)) (fun _ _ _ h => h)) <|
      sq_go 130 rfl rfl rfl (q_move rfl) <|
      sq_go 130 rfl rfl rfl (q_move rfl) <|
      sq_go 130 rfl rfl rfl (q_subi rfl rfl (by omega)) <|
      sq_go 130 rfl rfl rfl (q_call fn34 rfl (fun w hS => lroot_ct _ _ _ _ _ hG (by omega) w (own_box hS 5 rfl) (own_slK (hl := Lg.fcC_len) (h1 := Lg.fcC_one) (hS.own _ (List.mem_of_getElem? (i := 6) rfl)).1 rfl (by first | omega | (simp; done)) (Lg.good_fc hgL)) (hS.ext _ _ hg0)) (fun _ _ _ h => h)) <|
      sq_go 130 rfl rfl rfl (q_neAB ty62 ty5 kQ rfl rfl bQ bQ) <|
      sq_end) rfl rfl ?_
    clear hF hS; intro a w hF hS
    refine wpList_nil ?_
    refine hK32 _ _ ?_
    clear hK32
    refine wp_if hF rfl (fun hc7 => ?_) (fun hc7 => ?_)
    ·(try simp only [Bool.or_eq_true, Bool.and_eq_true, Bool.or_eq_false_iff, Bool.and_eq_false_iff, decide_eq_true_eq, decide_eq_false_iff_not, Bool.not_eq_true', Bool.not_eq_false'] at hc7)
     exfalso
     obtain ⟨h9, h8⟩ := hc7
     exact h8 (by rw [Lg.ch_end hch h9])
    ·(try simp only [Bool.or_eq_true, Bool.and_eq_true, Bool.or_eq_false_iff, Bool.and_eq_false_iff, decide_eq_true_eq, decide_eq_false_iff_not, Bool.not_eq_true', Bool.not_eq_false'] at hc7)
     refine wp_skip ?_
     refine hK31 _ _ ?_
     clear hK31
     refine wp_seq_k ?_; intro K33 hK33
     refine regl ?_
     refine wpl_sq hF hS (sq rfl (q_move rfl) <|
       sq rfl (q_move rfl) <|
       sq_end) ?_
     clear hF hS; intro a w hF hS
     refine wpl_ef hF hS rfl (ef_call fn35 rfl (fun w hS => keys_ct _ _ _ _ _ hG (by omega) w (own_box hS 5 rfl) (own_slK (hl := Lg.fcC_len) (h1 := Lg.fcC_one) (hS.own _ (List.mem_of_getElem? (i := 6) rfl)).1 rfl (by first | omega | (simp; done)) (Lg.good_fc hgL)))) ?_
     clear hF hS; rintro v54 _ _ a w ⟨_, _, rfl, rfl, ⟨rfl, rfl⟩⟩ hF hS
     replace hS : St _ [_, _] [_, _, _, _, _, _, _, _, _, _, _, _, _, _, _, _] _ := hS
     refine wpl_sq hF hS (sq rfl (q_assign rfl) <|
       sq_end) ?_
     clear hF hS; intro a w hF hS
     refine wpList_nil ?_
     refine hK33 _ _ ?_
     clear hK33
     refine wp_seq_k ?_; intro K34 hK34
     refine reg hF hS (sq rfl (q_assign rfl) <|
       sq_end) ?_
     clear hF hS; intro a w hF hS
     refine hK34 _ _ ?_
     clear hK34
     refine wp_block ?_
     obtain ⟨hs0, hhs0, hS⟩ : ∃ h, h = _ ∧ St _ _ h _ := ⟨_, rfl, hS⟩
     refine wp_loopx (γ := Nat) (0) (fun (i : Nat) => [(21, vi (i : Int))]) [(8, _), (16, _), (17, _), (20, _)] (fun (i : Nat) => hs0) (fun (i : Nat) => i ≤ (Lg.keys L.F (k : Int)).length) (fun (i : Nat) => (Lg.keys L.F (k : Int)).length - i) (hF.sub ⟨rfl, rfl, rfl, rfl, rfl, trivial⟩) (by subst hhs0; exact hS) (by exact Nat.zero_le _) ?_
     clear hF hS; rintro i a w hfact hF hS
     subst hhs0; (try dsimp only at hfact); (try dsimp only at hF); (try dsimp only at hS)
     have hi3 := hfact
     replace hS : St _ [_, _] [_, _, _, _, _, _, _, _, _, _, _, _, _, _, _, _] _ := hS
     refine wp_seq_k ?_; intro K35 hK35
     refine wp_seq_k ?_; intro K36 hK36
     refine reg hF hS (sq rfl (q_move rfl) <|
       sq rfl (q_move rfl) <|
       sq rfl (q_len_row ty40 0 rfl rfl) <|
       sq rfl (q_lti rfl rfl) <|
       sq_end) ?_
     clear hF hS; intro a w hF hS
     refine hK36 _ _ ?_
     clear hK36
     refine wp_ifd hF rfl (fun hc8 => ?_) (fun hc8 => ?_)
     ·have hkh := Lg.key_has (l := L.F) (t := (k : Int)) (i := i) (by omega)
      refine wp_skip ?_
      refine hK35 _ _ ?_
      clear hK35
      refine wp_seq_k ?_; intro K37 hK37
      refine wp_block ?_
      refine wp_seq_k ?_; intro K38 hK38
      refine reg hF hS (sq rfl (q_move rfl) <|
        sq rfl (q_move rfl) <|
        sq rfl (q_move rfl) <|
        sq rfl (q_move rfl) <|
        sq rfl (q_idx_row ty40 ty9 0 rfl rfl rfl (by omega)) <|
        sq rfl (q_ld_rowM (f := vs) (xs := Lg.keys L.F (k : Int)) ty9 0 [] rfl rfl (by omega) rfl) <|
        sq rfl (q_call fn38 rfl (fun w hS => at_ct _ _ _ _ _ _ hG (by omega) w (own_box hS 6 rfl) (own_slK (hl := Lg.fcC_len) (h1 := Lg.fcC_one) (hS.own _ (List.mem_of_getElem? (i := 7) rfl)).1 rfl (by first | omega | (simp; done)) (Lg.good_fc hgL))) (fun _ _ _ h => h)) <|
        sq rfl (q_move rfl) <|
        sq rfl (q_extract rfl rfl) <|
        sq rfl (q_extract rfl rfl) <|
        sq rfl (q_assign rfl) <|
        sq rfl (q_assign rfl) <|
        sq_end) ?_
      clear hF hS; intro a w hF hS
      refine hK38 _ _ ?_
      clear hK38
      refine wp_seq_k ?_; intro K39 hK39
      refine reg hF hS (sq rfl (q_move rfl) <|
        sq rfl (q_move rfl) <|
        sq rfl (q_move rfl) <|
        sq rfl (q_move rfl) <|
        sq rfl (q_idx_row ty40 ty9 0 rfl rfl rfl (by omega)) <|
        sq rfl (q_ld_rowM (f := vs) (xs := Lg.keys L.F (k : Int)) ty9 0 [] rfl rfl (by omega) rfl) <|
        sq rfl (q_call fn23 rfl (fun w hS => known9_ct _ _ _ _ w (Sl.mono (hS.le (.inr (by simp))) hza)) (fun _ _ _ h => h)) <|
        sq rfl (q_move rfl) <|
        sq rfl (q_extract rfl rfl) <|
        sq rfl (q_extract rfl rfl) <|
        sq rfl (q_assign rfl) <|
        sq rfl (q_assign rfl) <|
        sq_end) ?_
      clear hF hS; intro a w hF hS
      refine hK39 _ _ ?_
      clear hK39
      refine wp_seq_k ?_; intro K40 hK40
      refine reg hF hS (sq rfl (q_move rfl) <|
        sq rfl (q_bf (q_not rfl) (by rw [hkh]; rfl)) <|
        sq rfl (q_move rfl) <|
        sq_go 171 rfl rfl rfl (q_move rfl) <|
        sq_go 171 rfl rfl rfl (q_bf (q_not rfl) (by rw [hkh]; rfl)) <|
        sq rfl (q_pick_f rfl rfl) <|
        sq rfl (q_move rfl) <|
        sq_go 175 rfl rfl rfl (q_move rfl) <|
        sq_go 175 rfl rfl rfl (q_move rfl) <|
        sq_go 175 rfl rfl rfl (q_nf (q_nes rfl rfl) (by simp)) <|
        sq rfl (q_pick_f rfl rfl) <|
        sq_end) ?_
      clear hF hS; intro a w hF hS
      refine hK40 _ _ ?_
      clear hK40
      refine wp_if hF rfl (fun h => absurd h (by simp)) (fun _ => ?_)
      refine wp_skip ?_
      refine hK37 _ _ ?_
      clear hK37
      refine reg hF hS (sq rfl (q_move rfl) <|
        sq rfl (q_addi rfl rfl (by omega)) <|
        sq rfl (q_assign rfl) <|
        sq_end) ?_
      clear hF hS; intro a w hF hS
      refine ⟨(i + 1), ?_, ?_, hF.sub ⟨rfl, rfl, rfl, rfl, rfl, trivial⟩, ?_⟩
      ·(try dsimp only); omega
      ·omega
      ·exact hS
     ·refine wp_exit ?_
      refine hK24 _ _ ?_
      clear hK24
      refine reg hF hS (sq rfl (q_move rfl) <|
        sq rfl (q_addi rfl rfl (by omega)) <|
        sq rfl (q_assign rfl) <|
        sq_end) ?_
      clear hF hS; intro a w hF hS
      replace hS := hS.keep sQ (sQ.n)
      refine ⟨(k + 1), ?_, ?_, hF.sub ⟨rfl, rfl, rfl, trivial⟩, ?_⟩
      ·(try dsimp only); omega
      ·omega
      ·exact hS
  ·(try simp only [Bool.or_eq_true, Bool.and_eq_true, Bool.or_eq_false_iff, Bool.and_eq_false_iff, decide_eq_true_eq, decide_eq_false_iff_not, Bool.not_eq_true', Bool.not_eq_false'] at hc5)
   refine wp_exit ?_
   refine hK20 _ _ ?_
   clear hK20
   refine wp_seq_k ?_; intro K41 hK41
   refine reg hF hS (sq rfl (q_call fn20 rfl (fun w hS => lives41_ct w (hS.ext _ _ hg0)) (fun _ _ _ h => h)) <|
     sq rfl (q_assign rfl) <|
     sq_end) ?_
   clear hF hS; intro a w hF hS
   refine hK41 _ _ ?_
   clear hK41
   refine wp_ret ?_
   exact fn_ret (rs := [.tmp 6]) rfl hF hS (vs := [_]) ⟨rfl, trivial⟩ zQ zQ (rfl)
end Go.Proofs.YtngcjojijaknnaaGreatDoor
