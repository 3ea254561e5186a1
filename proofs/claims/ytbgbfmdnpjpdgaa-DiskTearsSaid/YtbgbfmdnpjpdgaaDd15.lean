/- A text of a proof over this seat: walks over the program's functions and the plain laws that they need. -/
import Derived.Test.YtbgbfmdnpjpdgaaDd14
import Derived.Test.YtbgbfmdnpjpdgaaDkA
import Derived.Test.YtbgbfmdnpjpdgaaFwB
set_option linter.all false
namespace Go.Proofs.Ytbgbfmdnpjpdgaa
open Go.Fw


set_option maxRecDepth 4000 in
set_option maxHeartbeats 2000000 in
theorem dlaw4_ct (n : Nat) (hn : 1 ≤ n ∧ n ≤ 64) (v : Value) (os : List Dk.Op) (v2 : Value) (pk : List Int) (w : World) (hb1 : Sl Go.Fw.encO (ph w) v os) (hb2 : Sl Go.Fw.encI (ph w) v2 pk) : Ct Try.prog 6 [vi (n : Int), v, v2] w (fun r _ _ => r = .bool true) := by
 refine fn_enter Try.func6 rfl Try.ntmps6 (Nat.le_of_ble_eq_true rfl) fun a hF hS => ?_
 have hol := hb1.1
 have hpl := hb2.1
 refine wp_seq_k ?_; intro K1 hK1
 refine reg hF hS (sq rfl (q_assign rfl) <|
   sq_end) ?_
 clear hF hS; intro a w hF hS
 refine hK1 _ _ ?_
 clear hK1
 refine wp_seq_k ?_; intro K2 hK2
 refine reg hF hS (sq rfl (q_call fn9 rfl (fun w hS => sanity_ct w ) (fun _ _ _ h => h)) <|
   sq rfl (q_assign rfl) <|
   sq_end) ?_
 clear hF hS; intro a w hF hS
 refine hK2 _ _ ?_
 clear hK2
 refine wp_seq_k ?_; intro K3 hK3
 refine regl ?_
 refine wpl_sq hF hS (sq rfl (q_move rfl) <|
   sq_end) ?_
 clear hF hS; intro a w hF hS
 refine wpl_ef hF hS rfl (ef_call fn10 rfl (fun w hS => start_ct _ (by omega) w )) ?_
 clear hF hS; rintro _ _ _ a w ⟨_, _, rfl, rfl, ⟨rfl, hh2, bb3, vv4, qa5, qb6, qc7, qd8, rfl, rfl, hD9⟩⟩ hF hS
 replace hS : St _ [] [_, _, _, _, _, _] _ := hS
 refine wpl_sq hF hS (sq rfl (q_move rfl) <|
   sq rfl (q_extract rfl rfl) <|
   sq rfl (q_extract rfl rfl) <|
   sq rfl (q_extract rfl rfl) <|
   sq rfl (q_assign rfl) <|
   sq rfl (q_assign rfl) <|
   sq rfl (q_assign rfl) <|
   sq_end) ?_
 clear hF hS; intro a w hF hS
 refine wpList_nil ?_
 refine hK3 _ _ ?_
 clear hK3
 refine wp_seq_k ?_; intro K4 hK4
 refine wp_seq_k ?_; intro K5 hK5
 refine reg hF hS (sq rfl (q_move rfl) <|
   sq rfl (q_not rfl) <|
   sq rfl (q_move rfl) <|
   sq_go 28 rfl rfl rfl (q_move rfl) <|
   sq_go 28 rfl rfl rfl (q_len_sl ty22 hb1 rfl) <|
   sq_go 28 rfl rfl rfl (q_gti rfl rfl) <|
   sq rfl (q_pick_f rfl rfl) <|
   sq_end) ?_
 clear hF hS; intro a w hF hS
 refine hK5 _ _ ?_
 clear hK5
 refine wp_ifd hF rfl (fun hc1 => ?_) (fun hc1 => ?_)
 ·refine wp_seq_k ?_; intro K6 hK6
  refine reg hF hS (sq rfl (q_move rfl) <|
    sq rfl (q_move rfl) <|
    sq_go 34 rfl rfl rfl (q_move rfl) <|
    sq_go 34 rfl rfl rfl (q_move rfl) <|
    sq_skip 36 rfl rfl rfl rfl <|
    sq_skip 36 rfl rfl rfl rfl <|
    sq_go 34 rfl rfl rfl (q_pick_t rfl rfl) <|
    sq_go 34 rfl rfl rfl (q_move rfl) <|
    sq_skip 40 rfl rfl rfl rfl <|
    sq_skip 40 rfl rfl rfl rfl <|
    sq_go 34 rfl rfl rfl (q_pick_t rfl rfl) <|
    sq rfl (q_pick_t rfl rfl) <|
    sq rfl (q_assign rfl) <|
    sq_end) ?_
  clear hF hS; intro a w hF hS
  refine hK6 _ _ ?_
  clear hK6
  refine wp_ret ?_
  exact fn_ret (rs := [.tmp 6]) rfl hF hS (vs := [_]) ⟨rfl, trivial⟩ zQ zQ (rfl)
 ·refine wp_skip ?_
  refine hK4 _ _ ?_
  clear hK4
  refine wp_seq_k ?_; intro K7 hK7
  refine wp_seq_k ?_; intro K8 hK8
  refine reg hF hS (sq rfl (q_assign rfl) <|
    sq_end) ?_
  clear hF hS; intro a w hF hS
  refine hK8 _ _ ?_
  clear hK8
  refine wp_block ?_
  obtain ⟨hs0, hhs0, hS⟩ : ∃ h, h = _ ∧ St _ _ h _ := ⟨_, rfl, hS⟩
  refine wp_loopx (γ := Dk.Dsk × Res × Res × Res × Res × Nat) ((Dk.new n), qa5, qb6, qc7, qd8, 0) (fun (gg : Dk.Dsk × Res × Res × Res × Res × Nat) => match gg with | (S, q1, q2, q3, q4, j) => [(11, vi (j : Int))]) [(0, _), (1, _), (2, _), (7, _), (8, _), (9, _)] (fun (gg : Dk.Dsk × Res × Res × Res × Res × Nat) => match gg with | (S, q1, q2, q3, q4, j) => ((((((hs0.set 0 (q1)).set 1 (q2)).set 2 (q3)).set 3 (q4)).set 4 (RRB bb3 vv4 S)).set 5 (RRW vv4 S))) (fun (gg : Dk.Dsk × Res × Res × Res × Res × Nat) => match gg with | (S, q1, q2, q3, q4, j) => j ≤ os.length ∧ DD hh2 S q1 q2 q3 q4 ∧ S.s.length = n) (fun (gg : Dk.Dsk × Res × Res × Res × Res × Nat) => match gg with | (S, q1, q2, q3, q4, j) => os.length - j) (hF.sub ⟨rfl, rfl, rfl, rfl, rfl, rfl, rfl, trivial⟩) (by subst hhs0; exact hS) (by exact ⟨Nat.zero_le _, hD9, Dk.new_len n⟩) ?_
  clear hF hS; rintro ⟨S, q1, q2, q3, q4, j⟩ a w hfact hF hS
  subst hhs0; (try dsimp only at hfact); (try dsimp only at hF); (try dsimp only at hS)
  obtain ⟨hj0, hDq, hSn⟩ := hfact
  have hOS := Dk.DOk.ok hDq
  replace hS : St _ [] [_, _, _, _, _, _] _ := hS
  refine wp_seq_k ?_; intro K9 hK9
  refine wp_seq_k ?_; intro K10 hK10
  refine reg hF hS (sq rfl (q_move rfl) <|
    sq rfl (q_move rfl) <|
    sq rfl (q_len_sl ty22 hb1 rfl) <|
    sq rfl (q_lti rfl rfl) <|
    sq_end) ?_
  clear hF hS; intro a w hF hS
  refine hK10 _ _ ?_
  clear hK10
  refine wp_ifd hF rfl (fun hc2 => ?_) (fun hc2 => ?_)
  ·obtain ⟨pv, hqc, hk9, hi9, hb9, ht9, hps9⟩ := o_at hb1 (k := ((j : Int)).toNat) (by omega)
   refine wp_skip ?_
   refine hK9 _ _ ?_
   clear hK9
   refine wp_seq_k ?_; intro K11 hK11
   refine wp_block ?_
   refine wp_seq_k ?_; intro K12 hK12
   refine regl ?_
   refine wpl_sq hF hS (sq rfl (q_move rfl) <|
     sq rfl (q_move rfl) <|
     sq rfl (q_move rfl) <|
     sq rfl (q_idx_sl ty22 ty33 hb1 rfl rfl (by omega)) <|
     sq rfl (q_ld_op ty33 hb1 zin0 hqc rfl rfl (by omega)) <|
     sq_end) ?_
   clear hF hS; intro a w hF hS
   refine wpl_ef hF hS rfl (ef_callx fn11 rfl (List.Perm.refl _) (by exact (do_ct _ _ (os.getD ((j : Int)).toNat o0).k (os.getD ((j : Int)).toNat o0).i (os.getD ((j : Int)).toNat o0).b (os.getD ((j : Int)).toNat o0).t (os.getD ((j : Int)).toNat o0).ps pv hk9 hi9 hb9 ht9 _ _ _ hps9 zin0  hDq))) ?_
   clear hF hS; rintro _ _ _ a w ⟨_, _, rfl, rfl, ⟨rfl, rfl, qa17, qb18, qc19, qd20, rfl, hD21⟩⟩ hF hS
   replace hS : St _ [] [_, _, _, _, _, _] _ := hS
   refine wpList_nil ?_
   refine hK12 _ _ ?_
   clear hK12
   refine regl ?_
   refine wpl_sq hF hS (sq rfl (q_move rfl) <|
     sq rfl (q_move rfl) <|
     sq rfl (q_move rfl) <|
     sq rfl (q_idx_sl ty22 ty33 hb1 rfl rfl (by omega)) <|
     sq rfl (q_ld_op ty33 hb1 zin0 hqc rfl rfl (by omega)) <|
     sq_end) ?_
   clear hF hS; intro a w hF hS
   replace hS := hS.perm (.cons _ (.cons _ (.cons _ (.swap _ _ _))))
   replace hS := hS.perm (.cons _ (.cons _ (.swap _ _ _)))
   replace hS := hS.perm (.cons _ (.swap _ _ _))
   replace hS := hS.perm (.swap _ _ _)
   replace hS := hS.perm (.cons _ (.cons _ (.cons _ (.cons _ (.swap _ _ _)))))
   replace hS := hS.perm (.cons _ (.cons _ (.cons _ (.swap _ _ _))))
   replace hS := hS.perm (.cons _ (.cons _ (.swap _ _ _)))
   replace hS := hS.perm (.cons _ (.swap _ _ _))
   replace hS : St _ [] [_, _, _, _, _, _] _ := hS
   refine wpl_ef hF hS rfl (ef_callx fn12 rfl (List.Perm.refl _) (by exact (rdo_ct (os.getD ((j : Int)).toNat o0).k (os.getD ((j : Int)).toNat o0).i (os.getD ((j : Int)).toNat o0).b (os.getD ((j : Int)).toNat o0).t (os.getD ((j : Int)).toNat o0).ps pv hk9 hi9 hb9 ht9 _ _ _ hps9 zin0  (by first | assumption | exact Dk.ok_step (by assumption) | exact Dk.rst_ok (by assumption) _ _) (S := S) (v := vv4)))) ?_
   clear hF hS; rintro _ _ _ a w ⟨_, _, rfl, rfl, ⟨rfl, rfl, rfl⟩⟩ hF hS
   replace hS : St _ [] [_, _, _, _, _, _] _ := hS
   refine wpList_nil ?_
   refine hK11 _ _ ?_
   clear hK11
   refine reg hF hS (sq rfl (q_move rfl) <|
     sq rfl (q_addi rfl rfl (by omega)) <|
     sq rfl (q_assign rfl) <|
     sq_end) ?_
   clear hF hS; intro a w hF hS
   replace hS := hS.perm (.cons _ (.swap _ _ _))
   replace hS := hS.perm (.swap _ _ _)
   replace hS := hS.perm (.cons _ (.cons _ (.swap _ _ _)))
   replace hS := hS.perm (.cons _ (.swap _ _ _))
   replace hS := hS.perm (.cons _ (.cons _ (.cons _ (.swap _ _ _))))
   replace hS := hS.perm (.cons _ (.cons _ (.swap _ _ _)))
   replace hS := hS.perm (.cons _ (.cons _ (.cons _ (.cons _ (.swap _ _ _)))))
   replace hS := hS.perm (.cons _ (.cons _ (.cons _ (.swap _ _ _))))
   replace hS := hS.keep zQ sQ
   refine ⟨((Dk.act S ⟨(os.getD ((j : Int)).toNat o0).k, (os.getD ((j : Int)).toNat o0).i, (os.getD ((j : Int)).toNat o0).b, (os.getD ((j : Int)).toNat o0).t, (os.getD ((j : Int)).toNat o0).ps⟩).1, qa17, qb18, qc19, qd20, j + 1), ?_, ?_, hF.sub ⟨rfl, rfl, rfl, rfl, rfl, rfl, rfl, trivial⟩, ?_⟩
   ·(try dsimp only); omega
   ·exact ⟨by omega, hD21, by rw [Dk.act_len]; exact hSn⟩
   ·exact hS
  ·refine wp_exit ?_
   refine hK7 _ _ ?_
   clear hK7
   refine wp_seq_k ?_; intro K13 hK13
   refine regl ?_
   refine wpl_sq hF hS (sq rfl (q_move rfl) <|
     sq_end) ?_
   clear hF hS; intro a w hF hS
   refine wpl_ef hF hS rfl (ef_callx fn15 rfl (List.Perm.refl _) (by exact (dimage_ct _ _ _ _  hDq))) ?_
   clear hF hS; rintro v23 _ _ a w ⟨_, _, rfl, rfl, ⟨rfl, qa24, qb25, qc26, qd27, rfl, hD28⟩⟩ hF hS
   replace hS : St _ [] [_, _, _, _, _, _, _] _ := hS
   refine wpl_sq hF hS (sq rfl (q_assign rfl) <|
     sq_end) ?_
   clear hF hS; intro a w hF hS
   refine wpList_nil ?_
   have hil := Dk.image_len S
   refine hK13 _ _ ?_
   clear hK13
   refine wp_seq_k ?_; intro K14 hK14
   refine regl ?_
   refine wpl_sq hF hS (sq rfl (q_move rfl) <|
     sq rfl (q_move rfl) <|
     sq_end) ?_
   clear hF hS; intro a w hF hS
   replace hS := hS.perm (.swap _ _ _)
   replace hS := hS.perm (.cons _ (.swap _ _ _))
   replace hS := hS.perm (.cons _ (.cons _ (.swap _ _ _)))
   replace hS := hS.perm (.cons _ (.cons _ (.cons _ (.swap _ _ _))))
   replace hS : St _ [] [_, _, _, _, _, _, _] _ := hS
   refine wpl_ef hF hS rfl (ef_callx fn26 rfl (List.Perm.refl _) (by exact (dmount_ct _ _ _ _ _ _ _ hb2 zin0 hD28))) ?_
   clear hF hS; rintro _ _ _ a w ⟨_, _, rfl, rfl, ⟨rfl, rfl, qa31, qb32, qc33, qd34, rfl, hD35⟩⟩ hF hS
   replace hS : St _ [] [_, _, _, _, _, _, _] _ := hS
   refine wpList_nil ?_
   refine hK14 _ _ ?_
   clear hK14
   refine wp_seq_k ?_; intro K15 hK15
   refine regl ?_
   refine wpl_sq hF hS (sq rfl (q_move rfl) <|
     sq_end) ?_
   clear hF hS; intro a w hF hS
   refine wpl_ef hF hS rfl (ef_callx fn15 rfl (List.Perm.refl _) (by exact (dimage_ct _ _ _ _  hD35))) ?_
   clear hF hS; rintro v36 _ _ a w ⟨_, _, rfl, rfl, ⟨rfl, qa37, qb38, qc39, qd40, rfl, hD41⟩⟩ hF hS
   replace hS : St _ [] [_, _, _, _, _, _, _, _] _ := hS
   refine wpl_sq hF hS (sq rfl (q_assign rfl) <|
     sq_end) ?_
   clear hF hS; intro a w hF hS
   refine wpList_nil ?_
   have hil2 := Dk.image_len (Dk.mount S pk)
   have hml := Dk.mount_len S pk
   refine hK15 _ _ ?_
   clear hK15
   refine wp_seq_k ?_; intro K16 hK16
   refine wp_seq_k ?_; intro K17 hK17
   refine regl ?_
   refine wpl_sq hF hS (sq rfl (q_move rfl) <|
     sq rfl (q_len_row ty39 5 rfl rfl) <|
     sq rfl (q_move rfl) <|
     sq rfl (q_nf (q_nei rfl rfl) (by omega)) <|
     sq rfl (q_move rfl) <|
     sq_go 74 rfl rfl rfl (q_move rfl) <|
     sq_go 74 rfl rfl rfl (q_len_row ty39 0 rfl rfl) <|
     sq_go 74 rfl rfl rfl (q_move rfl) <|
     sq_go 74 rfl rfl rfl (q_nf (q_nei rfl rfl) (by omega)) <|
     sq rfl (q_pick_f rfl rfl) <|
     sq rfl (q_move rfl) <|
     sq_go 80 rfl rfl rfl (q_move rfl) <|
     sq_end) ?_
   clear hF hS; intro a w hF hS
   replace hS := hS.perm (.swap _ _ _)
   replace hS := hS.perm (.cons _ (.swap _ _ _))
   replace hS := hS.perm (.cons _ (.cons _ (.swap _ _ _)))
   replace hS := hS.perm (.cons _ (.cons _ (.cons _ (.swap _ _ _))))
   replace hS : St _ [] [_, _, _, _, _, _, _, _] _ := hS
   refine wpl_efg hF hS (wanted_go 80 rfl rfl) rfl (ef_callx fn22 rfl (List.Perm.refl _) (by exact (dpending_ct _ _ _ _  hD41))) ?_
   clear hF hS; rintro v43 _ _ a w ⟨_, _, rfl, rfl, ⟨rfl, qa44, qb45, qc46, qd47, rfl, hD48⟩⟩ hF hS
   replace hS : St _ [] [_, _, _, _, _, _, _, _, _] _ := hS
   refine wpl_sq hF hS (sq_go 80 rfl rfl rfl (q_len_row ty31 0 rfl rfl) <|
     sq_go 80 rfl rfl rfl (q_nf (q_nei rfl rfl) (by rw [Dk.mount_dix]; rfl)) <|
     sq rfl (q_pick_f rfl rfl) <|
     sq rfl (q_move rfl) <|
     sq_go 86 rfl rfl rfl (q_move rfl) <|
     sq_end) ?_
   clear hF hS; intro a w hF hS
   replace hS := hS.perm (.swap _ _ _)
   replace hS := hS.perm (.cons _ (.swap _ _ _))
   replace hS := hS.perm (.cons _ (.cons _ (.swap _ _ _)))
   replace hS := hS.perm (.cons _ (.cons _ (.cons _ (.swap _ _ _))))
   replace hS : St _ [] [_, _, _, _, _, _, _, _, _] _ := hS
   refine wpl_efg hF hS (wanted_go 86 rfl rfl) rfl (ef_callx fn27 rfl (List.Perm.refl _) (by exact (dupt_ct _ _ (by first | rfl | (rw [Dk.u9]; rfl) | (rw [Dk.u1]; rfl)) _ _  hD48))) ?_
   clear hF hS; rintro _ _ _ a w ⟨_, _, rfl, rfl, ⟨rfl, rfl, qa51, qb52, qc53, qd54, rfl, hD55⟩⟩ hF hS
   replace hS : St _ [] [_, _, _, _, _, _, _, _, _] _ := hS
   refine wpl_sq hF hS (sq_go 86 rfl rfl rfl (q_not rfl) <|
     sq rfl (q_pick_f rfl rfl) <|
     sq_end) ?_
   clear hF hS; intro a w hF hS
   refine wpList_nil ?_
   refine hK17 _ _ ?_
   clear hK17
   refine wp_if hF rfl (fun h => absurd h (by simp)) (fun _ => ?_)
   refine wp_skip ?_
   refine hK16 _ _ ?_
   clear hK16
   refine wp_seq_k ?_; intro K18 hK18
   refine reg hF hS (sq rfl (q_assign rfl) <|
     sq_end) ?_
   clear hF hS; intro a w hF hS
   refine hK18 _ _ ?_
   clear hK18
   refine wp_seq_k ?_; intro K19 hK19
   refine wp_seq_k ?_; intro K20 hK20
   refine reg hF hS (sq rfl (q_assign rfl) <|
     sq_end) ?_
   clear hF hS; intro a w hF hS
   refine hK20 _ _ ?_
   clear hK20
   refine wp_block ?_
   obtain ⟨hs0, hhs0, hS⟩ : ∃ h, h = _ ∧ St _ _ h _ := ⟨_, rfl, hS⟩
   refine wp_loopx (γ := Nat) (0) (fun (i : Nat) => [(14, vi (Dk.cnt S i : Int)), (15, vi (i : Int))]) [(0, _), (2, _), (7, _), (9, _), (12, _), (13, _)] (fun (i : Nat) => hs0) (fun (i : Nat) => i ≤ n) (fun (i : Nat) => n - i) (hF.sub ⟨rfl, rfl, rfl, rfl, rfl, rfl, rfl, rfl, trivial⟩) (by subst hhs0; exact hS) (by exact Nat.zero_le _) ?_
   clear hF hS; rintro i a w hfact hF hS
   subst hhs0; (try dsimp only at hfact); (try dsimp only at hF); (try dsimp only at hS)
   have hi0 := hfact
   replace hS : St _ [] [_, _, _, _, _, _, _, _, _] _ := hS
   have hcl := Dk.cnt_le S i
   have hlo := hOS.lo
   have hhi := hOS.hi
   have hsc : (Dk.secC (S.s.getD ((i : Int)).toNat Dk.s0)).length = 4 := rfl
   refine wp_seq_k ?_; intro K21 hK21
   refine wp_seq_k ?_; intro K22 hK22
   refine reg hF hS (sq rfl (q_move rfl) <|
     sq rfl (q_move rfl) <|
     sq rfl (q_lti rfl rfl) <|
     sq_end) ?_
   clear hF hS; intro a w hF hS
   refine hK22 _ _ ?_
   clear hK22
   refine wp_ifd hF rfl (fun hc4 => ?_) (fun hc4 => ?_)
   ·refine wp_skip ?_
    refine hK21 _ _ ?_
    clear hK21
    refine wp_seq_k ?_; intro K23 hK23
    refine wp_block ?_
    refine wp_seq_k ?_; intro K24 hK24
    refine regl ?_
    refine wpl_sq hF hS (sq rfl (q_move rfl) <|
      sq rfl (q_nilCheck rfl) <|
      sq rfl (q_fieldAddr ty57 rfl rfl (s' := 0) kQ) <|
      sq rfl (q_ld_blk1 ty55 7 rfl rfl rfl rfl) <|
      sq rfl (q_move rfl) <|
      sq rfl (q_idx_row ty55 ty54 8 rfl rfl rfl (by omega)) <|
      sq rfl (q_ld_rowKW Dk.secC_len Dk.s0 ty54 8 rfl rfl rfl (by decide) (by omega)) <|
      sq_end) ?_
    clear hF hS; intro a w hF hS
    refine wpl_ef hF hS rfl (ef_allocA ty54) ?_
    clear hF hS; rintro _ _ _ a w ⟨b56, rfl, rfl, rfl⟩ hF hS
    refine wpl_ef hF hS rfl (ef_storeW ty54 0 rfl rfl rfl rfl bQ (oc_cons rfl (oc_cons rfl (oc_cons rfl (oc_cons rfl oc_nil)))) bQ) ?_
    clear hF hS; rintro _ _ _ a w ⟨rfl, rfl, rfl⟩ hF hS
    replace hS : St _ [] [_, _, _, _, _, _, _, _, _, _] _ := hS
    refine wpList_nil ?_
    rw [show Dk.secC (S.s.getD ((i : Int)).toNat Dk.s0) = [vs (S.s.getD ((i : Int)).toNat Dk.s0).tx, vs (S.s.getD ((i : Int)).toNat Dk.s0).nx, .bool (S.s.getD ((i : Int)).toNat Dk.s0).dt, .bool (S.s.getD ((i : Int)).toNat Dk.s0).wn] from rfl] at hS
    refine hK24 _ _ ?_
    clear hK24
    refine wp_seq_k ?_; intro K25 hK25
    refine reg hF hS (sq rfl (q_assign rfl) <|
      sq_end) ?_
    clear hF hS; intro a w hF hS
    refine hK25 _ _ ?_
    clear hK25
    obtain ⟨hs0, hhs0, hS⟩ : ∃ h, h = _ ∧ St _ _ h _ := ⟨_, rfl, hS⟩
    refine wp_cutx (γ := Int × Nat) (fun (gg : Int × Nat) => match gg with | (p, kk) => [(17, vi p), (14, vi (kk : Int))]) [(0, _), (2, _), (7, _), (9, _), (12, _), (13, _), (15, _), (16, _)] (fun (gg : Int × Nat) => match gg with | (p, kk) => hs0) (fun (gg : Int × Nat) => match gg with | (p, kk) => ((S.s.getD ((i : Int)).toNat Dk.s0).dt = true → p = max 0 (min (Dk.pk pk (Dk.cnt S i)) 64)) ∧ 0 ≤ p ∧ p ≤ 64 ∧ kk = Dk.cnt S (i + 1)) (hF.sub ⟨rfl, rfl, rfl, rfl, rfl, rfl, rfl, rfl, trivial⟩) hS ?_ ?_
    ·subst hhs0
     refine wp_seq_k ?_; intro K26 hK26
     refine reg hF hS (sq rfl (q_fieldAddr ty54 rfl rfl (s' := 0) kQ) <|
       sq rfl (q_ld_blk1 ty4 0 rfl rfl rfl rfl) <|
       sq_end) ?_
     clear hF hS; intro a w hF hS
     refine hK26 _ _ ?_
     clear hK26
     refine wp_if hF rfl (fun hc5 => ?_) (fun hc5 => ?_)
     ·refine wp_seq_k ?_; intro K27 hK27
      refine reg hF hS (sq rfl (q_assign rfl) <|
        sq_end) ?_
      clear hF hS; intro a w hF hS
      refine hK27 _ _ ?_
      clear hK27
      refine wp_seq_k ?_; intro K28 hK28
      refine wp_seq_k ?_; intro K29 hK29
      refine reg hF hS (sq rfl (q_move rfl) <|
        sq rfl (q_move rfl) <|
        sq rfl (q_len_sl ty31 hb2 rfl) <|
        sq rfl (q_lti rfl rfl) <|
        sq_end) ?_
      clear hF hS; intro a w hF hS
      refine hK29 _ _ ?_
      clear hK29
      refine wp_ifd hF rfl (fun hc6 => ?_) (fun hc6 => ?_)
      ·refine reg hF hS (sq rfl (q_move rfl) <|
         sq rfl (q_move rfl) <|
         sq rfl (q_idx_sl ty31 ty3 hb2 rfl rfl (by omega)) <|
         sq rfl (q_ld_I ty3 hb2 zin0 rfl rfl (by omega)) <|
         sq rfl (q_min rfl rfl) <|
         sq rfl (q_max rfl rfl) <|
         sq rfl (q_assign rfl) <|
         sq_end) ?_
       clear hF hS; intro a w hF hS
       refine hK28 _ _ ?_
       clear hK28
       refine reg hF hS (sq rfl (q_move rfl) <|
         sq rfl (q_addi rfl rfl (by omega)) <|
         sq rfl (q_assign rfl) <|
         sq_end) ?_
       clear hF hS; intro a w hF hS
       rw [show ((Dk.cnt S i : Int) + 1) = ((Dk.cnt S (i + 1) : Nat) : Int) by rw [Dk.cnt_1 S (by omega), if_pos (show (S.at (i : Int)).dt = true from hc5)]; rfl] at hF
       refine ⟨((max 0 (min (pk.getD ((Dk.cnt S i : Int)).toNat 0) 64)), (Dk.cnt S (i + 1))), ?_, hF.sub ⟨rfl, rfl, rfl, rfl, rfl, rfl, rfl, rfl, rfl, rfl, trivial⟩, ?_⟩
       ·exact ⟨fun _ => by rw [Int.toNat_natCast, Dk.pk_1 (by omega)], by omega, by omega, rfl⟩
       ·exact hS
      ·refine wp_skip ?_
       refine hK28 _ _ ?_
       clear hK28
       refine reg hF hS (sq rfl (q_move rfl) <|
         sq rfl (q_addi rfl rfl (by omega)) <|
         sq rfl (q_assign rfl) <|
         sq_end) ?_
       clear hF hS; intro a w hF hS
       rw [show ((Dk.cnt S i : Int) + 1) = ((Dk.cnt S (i + 1) : Nat) : Int) by rw [Dk.cnt_1 S (by omega), if_pos (show (S.at (i : Int)).dt = true from hc5)]; rfl] at hF
       refine ⟨(64, (Dk.cnt S (i + 1))), ?_, hF.sub ⟨rfl, rfl, rfl, rfl, rfl, rfl, rfl, rfl, rfl, rfl, trivial⟩, ?_⟩
       ·exact ⟨fun _ => by rw [Dk.pk_2 (by omega)]; decide, by decide, by decide, rfl⟩
       ·exact hS
     ·refine wp_skip ?_
      rw [show ((Dk.cnt S i : Int)) = ((Dk.cnt S (i + 1) : Nat) : Int) by rw [Dk.cnt_1 S (by omega), if_neg (by rw [show (S.at (i : Int)).dt = false from hc5]; simp)]] at hF
      refine ⟨(0, (Dk.cnt S (i + 1))), ?_, hF.sub ⟨rfl, rfl, rfl, rfl, rfl, rfl, rfl, rfl, rfl, rfl, trivial⟩, ?_⟩
      ·exact ⟨fun h9 => absurd h9 (by rw [hc5]; simp), by decide, by decide, rfl⟩
      ·exact hS
    clear hF hS; rintro ⟨p, kk⟩ a w hfact hF hS
    subst hhs0; (try dsimp only at hfact); (try dsimp only at hF); (try dsimp only at hS)
    obtain ⟨hp1, hp2, hp3, hp4⟩ := hfact
    replace hS : St _ [] [_, _, _, _, _, _, _, _, _, _] _ := hS
    subst hp4
    have hso := hOS.at (i := (i : Int)) ⟨by omega, by omega⟩
    have htx : (S.s.getD ((i : Int)).toNat Dk.s0).tx.length = 64 := hso.1
    have hdx : (S.s.getD ((i : Int)).toNat Dk.s0).dt = true → (S.s.getD ((i : Int)).toNat Dk.s0).nx.length = 64 := hso.2.1
    have hio := Dk.image_at (S := S) (i := ((i : Int)).toNat) (by omega)
    refine wp_seq_k ?_; intro K30 hK30
    refine reg hF hS (sq rfl (q_move rfl) <|
      sq rfl (q_move rfl) <|
      sq rfl (q_idx_row ty39 ty9 7 rfl rfl rfl (by omega)) <|
      sq rfl (q_ld_rowM ty9 7 default rfl rfl bQ rfl) <|
      sq rfl (q_assign rfl) <|
      sq_end) ?_
    clear hF hS; intro a w hF hS
    refine hK30 _ _ ?_
    clear hK30
    refine wp_seq_k ?_; intro K31 hK31
    refine wp_seq_k ?_; intro K32 hK32
    refine regl ?_
    refine wpl_sq hF hS (sq rfl (q_fieldAddr ty54 rfl rfl (s' := 0) kQ) <|
      sq rfl (q_ld_blk1 ty4 0 rfl rfl rfl rfl) <|
      sq rfl (q_move rfl) <|
      sq_end) ?_
    clear hF hS; intro a w hF hS
    refine wpl_and 2 123 3 hF hS rfl rfl rfl rfl rfl (fun hg => have hg := hg; sq_go 123 rfl rfl rfl (q_fieldAddr ty54 rfl rfl (s' := 0) kQ) <|
      sq_go 123 rfl rfl rfl (q_ld_blk1 ty4 0 rfl rfl rfl rfl) <|
      sq_go 123 rfl rfl rfl (q_not rfl) <|
      sq_end) rfl rfl ?_
    clear hF hS; intro a w hF hS
    refine wpList_nil ?_
    refine hK32 _ _ ?_
    clear hK32
    refine wp_if hF rfl (fun hc7 => ?_) (fun hc7 => ?_)
    ·(try simp only [Bool.or_eq_true, Bool.and_eq_true, Bool.or_eq_false_iff, Bool.and_eq_false_iff, decide_eq_true_eq, decide_eq_false_iff_not, Bool.not_eq_true', Bool.not_eq_false'] at hc7)
     have hnx := hdx hc7.1
     have hol9 : ((Dk.image S).getD ((i : Int)).toNat default).length = 64 := by rw [show (Dk.image S).getD ((i : Int)).toNat default = _ from hio]; exact htx
     have hta : (List.take p.toNat (S.s.getD ((i : Int)).toNat Dk.s0).nx).length ≤ 64 := by rw [List.length_take]; omega
     have htb : (List.drop p.toNat ((Dk.image S).getD ((i : Int)).toNat default)).length ≤ 64 := by rw [List.length_drop]; omega
     refine regd mixed kQ hF hS (sq rfl (q_fieldAddr ty54 rfl rfl (s' := 0) kQ) <|
       sq rfl (q_ld_blk1 ty9 0 rfl rfl rfl rfl) <|
       sq rfl (q_move rfl) <|
       sq rfl (q_sl_s_hi ty9 rfl rfl (by omega)) <|
       sq rfl (q_move rfl) <|
       sq rfl (q_move rfl) <|
       sq rfl (q_idx_row ty39 ty9 7 rfl rfl rfl (by omega)) <|
       sq rfl (q_ld_rowM ty9 7 default rfl rfl bQ rfl) <|
       sq rfl (q_move rfl) <|
       sq rfl (q_sl_s_lo ty9 rfl rfl (by omega)) <|
       sq rfl (q_adds rfl rfl bQ) <|
       sq rfl (q_assign rfl) <|
       sq_end) ?_
     clear hF hS; intro a w hF hS
     refine hK31 _ _ ?_
     clear hK31
     refine wp_seq_k ?_; intro K33 hK33
     refine reg hF hS (sq rfl (q_move rfl) <|
       sq rfl (q_move rfl) <|
       sq rfl (q_idx_row ty39 ty9 6 rfl rfl rfl (by omega)) <|
       sq rfl (q_ld_rowM ty9 6 default rfl rfl bQ rfl) <|
       sq rfl (q_move rfl) <|
       sq rfl (q_nf (q_nes rfl rfl) (by exact Dk.tear_1 (i := ((i : Int)).toNat) (by omega) hc7.1 hc7.2 (by rw [Int.toNat_natCast]; exact hp1 hc7.1))) <|
       sq_end) ?_
     clear hF hS; intro a w hF hS
     refine hK33 _ _ ?_
     clear hK33
     refine wp_if hF rfl (fun h => absurd h (by simp)) (fun _ => ?_)
     refine wp_skip ?_
     refine hK23 _ _ ?_
     clear hK23
     refine reg hF hS (sq rfl (q_move rfl) <|
       sq rfl (q_addi rfl rfl (by omega)) <|
       sq rfl (q_assign rfl) <|
       sq_end) ?_
     clear hF hS; intro a w hF hS
     replace hS := hS.keep zQ (sQ.n)
     refine ⟨(i + 1), ?_, ?_, hF.sub ⟨rfl, rfl, rfl, rfl, rfl, rfl, rfl, rfl, trivial⟩, ?_⟩
     ·(try dsimp only); omega
     ·omega
     ·exact hS
    ·(try simp only [Bool.or_eq_true, Bool.and_eq_true, Bool.or_eq_false_iff, Bool.and_eq_false_iff, decide_eq_true_eq, decide_eq_false_iff_not, Bool.not_eq_true', Bool.not_eq_false'] at hc7)
     refine wp_skip ?_
     refine hK31 _ _ ?_
     clear hK31
     refine wp_seq_k ?_; intro K34 hK34
     refine reg hF hS (sq rfl (q_move rfl) <|
       sq rfl (q_move rfl) <|
       sq rfl (q_idx_row ty39 ty9 6 rfl rfl rfl (by omega)) <|
       sq rfl (q_ld_rowM ty9 6 default rfl rfl bQ rfl) <|
       sq rfl (q_move rfl) <|
       sq rfl (q_nf (q_nes rfl rfl) (by exact Dk.tear_2 (i := ((i : Int)).toNat) (by omega) hc7)) <|
       sq_end) ?_
     clear hF hS; intro a w hF hS
     refine hK34 _ _ ?_
     clear hK34
     refine wp_if hF rfl (fun h => absurd h (by simp)) (fun _ => ?_)
     refine wp_skip ?_
     refine hK23 _ _ ?_
     clear hK23
     refine reg hF hS (sq rfl (q_move rfl) <|
       sq rfl (q_addi rfl rfl (by omega)) <|
       sq rfl (q_assign rfl) <|
       sq_end) ?_
     clear hF hS; intro a w hF hS
     replace hS := hS.keep zQ (sQ.n)
     refine ⟨(i + 1), ?_, ?_, hF.sub ⟨rfl, rfl, rfl, rfl, rfl, rfl, rfl, rfl, trivial⟩, ?_⟩
     ·(try dsimp only); omega
     ·omega
     ·exact hS
   ·refine wp_exit ?_
    refine hK19 _ _ ?_
    clear hK19
    refine wp_seq_k ?_; intro K35 hK35
    refine reg hF hS (sq rfl (q_move rfl) <|
      sq rfl (q_assign rfl) <|
      sq_end) ?_
    clear hF hS; intro a w hF hS
    refine hK35 _ _ ?_
    clear hK35
    refine wp_ret ?_
    exact fn_ret (rs := [.tmp 6]) rfl hF hS (vs := [_]) ⟨rfl, trivial⟩ zQ zQ (rfl)

set_option maxRecDepth 4000 in
set_option maxHeartbeats 2000000 in
theorem dlaw4x_ct (n : Int) (hn : ¬ (1 ≤ n ∧ n ≤ 64)) (v : Value) (os : List Dk.Op) (v2 : Value) (pk : List Int) (w : World) (hb1 : Sl Go.Fw.encO (ph w) v os) (hb2 : Sl Go.Fw.encI (ph w) v2 pk) : Ct Try.prog 6 [vi n, v, v2] w (fun r _ _ => r = .bool true) := by
 refine fn_enter Try.func6 rfl Try.ntmps6 (Nat.le_of_ble_eq_true rfl) fun a hF hS => ?_
 have hol := hb1.1
 refine wp_seq_k ?_; intro K1 hK1
 refine reg hF hS (sq rfl (q_assign rfl) <|
   sq_end) ?_
 clear hF hS; intro a w hF hS
 refine hK1 _ _ ?_
 clear hK1
 refine wp_seq_k ?_; intro K2 hK2
 refine reg hF hS (sq rfl (q_call fn9 rfl (fun w hS => sanity_ct w ) (fun _ _ _ h => h)) <|
   sq rfl (q_assign rfl) <|
   sq_end) ?_
 clear hF hS; intro a w hF hS
 refine hK2 _ _ ?_
 clear hK2
 refine wp_seq_k ?_; intro K3 hK3
 refine reg hF hS (sq rfl (q_move rfl) <|
   sq rfl (q_call fn10 rfl (fun w hS => startx_ct _ (by omega) w ) (fun _ _ _ h => h)) <|
   sq rfl (q_move rfl) <|
   sq rfl (q_extract rfl rfl) <|
   sq rfl (q_extract rfl rfl) <|
   sq rfl (q_extract rfl rfl) <|
   sq rfl (q_assign rfl) <|
   sq rfl (q_assign rfl) <|
   sq rfl (q_assign rfl) <|
   sq_end) ?_
 clear hF hS; intro a w hF hS
 refine hK3 _ _ ?_
 clear hK3
 refine wp_seq_k ?_; intro K4 hK4
 refine wp_seq_k ?_; intro K5 hK5
 refine reg hF hS (sq rfl (q_move rfl) <|
   sq rfl (q_not rfl) <|
   sq rfl (q_move rfl) <|
   sq_skip 28 rfl rfl rfl rfl <|
   sq_skip 28 rfl rfl rfl rfl <|
   sq_skip 28 rfl rfl rfl rfl <|
   sq rfl (q_pick_t rfl rfl) <|
   sq_end) ?_
 clear hF hS; intro a w hF hS
 refine hK5 _ _ ?_
 clear hK5
 refine wp_if hF rfl (fun _ => ?_) (fun h => absurd h (by simp))
 refine wp_seq_k ?_; intro K6 hK6
 rcases Decidable.em (n < 1) with hB | hB
 ·skip
  refine reg hF hS (sq rfl (q_move rfl) <|
    sq rfl (q_move rfl) <|
    sq_go 34 rfl rfl rfl (q_move rfl) <|
    sq_go 34 rfl rfl rfl (q_move rfl) <|
    sq_go 36 rfl rfl rfl (q_move rfl) <|
    sq_go 36 rfl rfl rfl (q_dt (q_lti rfl rfl) (by simpa using hB)) <|
    sq_go 34 rfl rfl rfl (q_pick_f rfl rfl) <|
    sq_go 34 rfl rfl rfl (q_move rfl) <|
    sq_skip 40 rfl rfl rfl rfl <|
    sq_skip 40 rfl rfl rfl rfl <|
    sq_go 34 rfl rfl rfl (q_pick_t rfl rfl) <|
    sq rfl (q_pick_t rfl rfl) <|
    sq rfl (q_assign rfl) <|
    sq_end) ?_
  clear hF hS; intro a w hF hS
  refine hK6 _ _ ?_
  clear hK6
  refine wp_ret ?_
  exact fn_ret (rs := [.tmp 6]) rfl hF hS (vs := [_]) ⟨rfl, trivial⟩ zQ zQ (rfl)
 ·skip
  refine reg hF hS (sq rfl (q_move rfl) <|
    sq rfl (q_move rfl) <|
    sq_go 34 rfl rfl rfl (q_move rfl) <|
    sq_go 34 rfl rfl rfl (q_move rfl) <|
    sq_go 36 rfl rfl rfl (q_move rfl) <|
    sq_go 36 rfl rfl rfl (q_df (q_lti rfl rfl) (by simpa using hB)) <|
    sq_go 34 rfl rfl rfl (q_pick_f rfl rfl) <|
    sq_go 34 rfl rfl rfl (q_move rfl) <|
    sq_go 40 rfl rfl rfl (q_move rfl) <|
    sq_go 40 rfl rfl rfl (q_dt (q_gti rfl rfl) (by omega)) <|
    sq_go 34 rfl rfl rfl (q_pick_f rfl rfl) <|
    sq rfl (q_pick_t rfl rfl) <|
    sq rfl (q_assign rfl) <|
    sq_end) ?_
  clear hF hS; intro a w hF hS
  refine hK6 _ _ ?_
  clear hK6
  refine wp_ret ?_
  exact fn_ret (rs := [.tmp 6]) rfl hF hS (vs := [_]) ⟨rfl, trivial⟩ zQ zQ (rfl)

theorem dlaw4_all (n : Int) (v : Value) (os : List Dk.Op) (v2 : Value) (pk : List Int) (w : World) (hb1 : Sl Go.Fw.encO (ph w) v os) (hb2 : Sl Go.Fw.encI (ph w) v2 pk) : Ct Try.prog 6 [vi n, v, v2] w (fun r _ _ => r = .bool true) := by
 rcases Decidable.em (1 ≤ n ∧ n ≤ 64) with h | h
 ·obtain ⟨m, rfl⟩ : ∃ m : Nat, n = (m : Int) := ⟨n.toNat, by omega⟩
  exact dlaw4_ct m (by omega) v os v2 pk w hb1 hb2
 ·exact dlaw4x_ct n h v os v2 pk w hb1 hb2
end Go.Proofs.Ytbgbfmdnpjpdgaa
