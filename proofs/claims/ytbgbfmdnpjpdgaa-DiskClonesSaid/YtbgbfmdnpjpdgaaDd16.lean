/- A text of a proof over this seat: walks over the program's functions and the plain laws that they need. -/
import Derived.Test.YtbgbfmdnpjpdgaaDd15
import Derived.Test.YtbgbfmdnpjpdgaaDkA
import Derived.Test.YtbgbfmdnpjpdgaaFwB
set_option linter.all false
namespace Go.Proofs.Ytbgbfmdnpjpdgaa
open Go.Fw
theorem fn29 : FnOk Try.prog 29 := ⟨_, Try.func29, rfl, by kernel_rfl⟩

set_option maxRecDepth 4000 in
set_option maxHeartbeats 2000000 in
theorem dlaw6_ct (n : Nat) (hn : 1 ≤ n ∧ n ≤ 64) (v : Value) (os : List Dk.Op) (v2 : Value) (os2 : List Dk.Op) (v3 : Value) (os3 : List Dk.Op) (w : World) (hb1 : Sl Go.Fw.encO (ph w) v os) (hb2 : Sl Go.Fw.encO (ph w) v2 os2) (hb3 : Sl Go.Fw.encO (ph w) v3 os3) : Ct Try.prog 8 [vi (n : Int), v, v2, v3] w (fun r _ _ => r = .bool true) := by
 refine fn_enter Try.func8 rfl Try.ntmps8 (Nat.le_of_ble_eq_true rfl) fun a hF hS => ?_
 have hol := hb1.1
 have hol2 := hb2.1
 have hol3 := hb3.1
 refine wp_seq_k ?_; intro K1 hK1
 refine reg hF hS (sq rfl (q_assign rfl) <|
   sq_end) ?_
 clear hF hS; intro a w hF hS
 refine hK1 _ _ ?_
 clear hK1
 refine wp_seq_k ?_; intro K2 hK2
 refine reg hF hS (sq rfl (q_call fn9 rfl (fun w hS => sanity_ct w ) (fun _ _ _ h => h)) <|
   sq rfl (q_assign rfl) <|
   sq_end) ?_
 clear hF hS; intro a w hF hS
 refine hK2 _ _ ?_
 clear hK2
 refine wp_seq_k ?_; intro K3 hK3
 refine regl ?_
 refine wpl_sq hF hS (sq rfl (q_move rfl) <|
   sq_end) ?_
 clear hF hS; intro a w hF hS
 refine wpl_ef hF hS rfl (ef_call fn10 rfl (fun w hS => start_ct _ (by omega) w )) ?_
 clear hF hS; rintro _ _ _ a w ⟨_, _, rfl, rfl, ⟨rfl, hh2, bb3, vv4, qa5, qb6, qc7, qd8, rfl, rfl, hD9⟩⟩ hF hS
 replace hS : St _ [] [_, _, _, _, _, _] _ := hS
 refine wpl_sq hF hS (sq rfl (q_move rfl) <|
   sq rfl (q_extract rfl rfl) <|
   sq rfl (q_extract rfl rfl) <|
   sq rfl (q_extract rfl rfl) <|
   sq rfl (q_assign rfl) <|
   sq rfl (q_assign rfl) <|
   sq rfl (q_assign rfl) <|
   sq_end) ?_
 clear hF hS; intro a w hF hS
 refine wpList_nil ?_
 refine hK3 _ _ ?_
 clear hK3
 refine wp_seq_k ?_; intro K4 hK4
 refine wp_seq_k ?_; intro K5 hK5
 refine regl ?_
 refine wpl_sq hF hS (sq rfl (q_move rfl) <|
   sq rfl (q_not rfl) <|
   sq rfl (q_move rfl) <|
   sq_go 27 rfl rfl rfl (q_move rfl) <|
   sq_go 27 rfl rfl rfl (q_len_sl ty22 hb1 rfl) <|
   sq_go 27 rfl rfl rfl (q_gti rfl rfl) <|
   sq rfl (q_pick_f rfl rfl) <|
   sq rfl (q_move rfl) <|
   sq_end) ?_
 clear hF hS; intro a w hF hS
 refine wpl_or 7 32 3 hF hS rfl rfl rfl rfl rfl (fun hg => have hg := (by first | exact of_decide_eq_false hg | exact hg); sq_go 32 rfl rfl rfl (q_move rfl) <|
   sq_go 32 rfl rfl rfl (q_len_sl ty22 hb2 rfl) <|
   sq_go 32 rfl rfl rfl (q_gti rfl rfl) <|
   sq_end) rfl rfl ?_
 clear hF hS; intro a w hF hS
 refine wpl_sq hF hS (sq rfl (q_move rfl) <|
   sq_end) ?_
 clear hF hS; intro a w hF hS
 refine wpl_or 12 37 3 hF hS rfl rfl rfl rfl rfl (fun hg => have hg := hg; sq_go 37 rfl rfl rfl (q_move rfl) <|
   sq_go 37 rfl rfl rfl (q_len_sl ty22 hb3 rfl) <|
   sq_go 37 rfl rfl rfl (q_gti rfl rfl) <|
   sq_end) rfl rfl ?_
 clear hF hS; intro a w hF hS
 refine wpList_nil ?_
 refine hK5 _ _ ?_
 clear hK5
 refine wp_if hF rfl (fun hc1 => ?_) (fun hc1 => ?_)
 ·(try simp only [Bool.or_eq_true, Bool.and_eq_true, Bool.or_eq_false_iff, Bool.and_eq_false_iff, decide_eq_true_eq, decide_eq_false_iff_not, Bool.not_eq_true', Bool.not_eq_false'] at hc1)
  refine wp_seq_k ?_; intro K6 hK6
  refine reg hF hS (sq rfl (q_move rfl) <|
    sq rfl (q_move rfl) <|
    sq_go 43 rfl rfl rfl (q_move rfl) <|
    sq_go 43 rfl rfl rfl (q_move rfl) <|
    sq_skip 45 rfl rfl rfl rfl <|
    sq_skip 45 rfl rfl rfl rfl <|
    sq_go 43 rfl rfl rfl (q_pick_t rfl rfl) <|
    sq_go 43 rfl rfl rfl (q_move rfl) <|
    sq_skip 49 rfl rfl rfl rfl <|
    sq_skip 49 rfl rfl rfl rfl <|
    sq_go 43 rfl rfl rfl (q_pick_t rfl rfl) <|
    sq rfl (q_pick_t rfl rfl) <|
    sq rfl (q_assign rfl) <|
    sq_end) ?_
  clear hF hS; intro a w hF hS
  refine hK6 _ _ ?_
  clear hK6
  refine wp_ret ?_
  exact fn_ret (rs := [.tmp 8]) rfl hF hS (vs := [_]) ⟨rfl, trivial⟩ zQ zQ (rfl)
 ·(try simp only [Bool.or_eq_true, Bool.and_eq_true, Bool.or_eq_false_iff, Bool.and_eq_false_iff, decide_eq_true_eq, decide_eq_false_iff_not, Bool.not_eq_true', Bool.not_eq_false'] at hc1)
  refine wp_skip ?_
  refine hK4 _ _ ?_
  clear hK4
  refine wp_seq_k ?_; intro K7 hK7
  refine wp_seq_k ?_; intro K8 hK8
  refine reg hF hS (sq rfl (q_assign rfl) <|
    sq_end) ?_
  clear hF hS; intro a w hF hS
  refine hK8 _ _ ?_
  clear hK8
  refine wp_block ?_
  obtain ⟨hs0, hhs0, hS⟩ : ∃ h, h = _ ∧ St _ _ h _ := ⟨_, rfl, hS⟩
  refine wp_loopx (γ := Dk.Dsk × Res × Res × Res × Res × Nat) ((Dk.new n), qa5, qb6, qc7, qd8, 0) (fun (gg : Dk.Dsk × Res × Res × Res × Res × Nat) => match gg with | (S, q1, q2, q3, q4, j) => [(13, vi (j : Int))]) [(1, _), (2, _), (3, _), (9, _), (10, _), (11, _)] (fun (gg : Dk.Dsk × Res × Res × Res × Res × Nat) => match gg with | (S, q1, q2, q3, q4, j) => ((((((hs0.set 0 (q1)).set 1 (q2)).set 2 (q3)).set 3 (q4)).set 4 (RRB bb3 vv4 S)).set 5 (RRW vv4 S))) (fun (gg : Dk.Dsk × Res × Res × Res × Res × Nat) => match gg with | (S, q1, q2, q3, q4, j) => j ≤ os.length ∧ DD hh2 S q1 q2 q3 q4) (fun (gg : Dk.Dsk × Res × Res × Res × Res × Nat) => match gg with | (S, q1, q2, q3, q4, j) => os.length - j) (hF.sub ⟨rfl, rfl, rfl, rfl, rfl, rfl, rfl, trivial⟩) (by subst hhs0; exact hS) (by exact ⟨Nat.zero_le _, hD9⟩) ?_
  clear hF hS; rintro ⟨S, q1, q2, q3, q4, j⟩ a w hfact hF hS
  subst hhs0; (try dsimp only at hfact); (try dsimp only at hF); (try dsimp only at hS)
  obtain ⟨hj0, hDq⟩ := hfact
  have hOS := Dk.DOk.ok hDq
  replace hS : St _ [] [_, _, _, _, _, _] _ := hS
  refine wp_seq_k ?_; intro K9 hK9
  refine wp_seq_k ?_; intro K10 hK10
  refine reg hF hS (sq rfl (q_move rfl) <|
    sq rfl (q_move rfl) <|
    sq rfl (q_len_sl ty22 hb1 rfl) <|
    sq rfl (q_lti rfl rfl) <|
    sq_end) ?_
  clear hF hS; intro a w hF hS
  refine hK10 _ _ ?_
  clear hK10
  refine wp_ifd hF rfl (fun hc2 => ?_) (fun hc2 => ?_)
  ·obtain ⟨pv, hqc, hk9, hi9, hb9, ht9, hps9⟩ := o_at hb1 (k := ((j : Int)).toNat) (by omega)
   refine wp_skip ?_
   refine hK9 _ _ ?_
   clear hK9
   refine wp_seq_k ?_; intro K11 hK11
   refine wp_block ?_
   refine wp_seq_k ?_; intro K12 hK12
   refine regl ?_
   refine wpl_sq hF hS (sq rfl (q_move rfl) <|
     sq rfl (q_move rfl) <|
     sq rfl (q_move rfl) <|
     sq rfl (q_idx_sl ty22 ty33 hb1 rfl rfl (by omega)) <|
     sq rfl (q_ld_op ty33 hb1 zin0 hqc rfl rfl (by omega)) <|
     sq_end) ?_
   clear hF hS; intro a w hF hS
   refine wpl_ef hF hS rfl (ef_callx fn11 rfl (List.Perm.refl _) (by exact (do_ct _ _ (os.getD ((j : Int)).toNat o0).k (os.getD ((j : Int)).toNat o0).i (os.getD ((j : Int)).toNat o0).b (os.getD ((j : Int)).toNat o0).t (os.getD ((j : Int)).toNat o0).ps pv hk9 hi9 hb9 ht9 _ _ _ hps9 zin0  hDq))) ?_
   clear hF hS; rintro _ _ _ a w ⟨_, _, rfl, rfl, ⟨rfl, rfl, qa17, qb18, qc19, qd20, rfl, hD21⟩⟩ hF hS
   replace hS : St _ [] [_, _, _, _, _, _] _ := hS
   refine wpList_nil ?_
   refine hK12 _ _ ?_
   clear hK12
   refine regl ?_
   refine wpl_sq hF hS (sq rfl (q_move rfl) <|
     sq rfl (q_move rfl) <|
     sq rfl (q_move rfl) <|
     sq rfl (q_idx_sl ty22 ty33 hb1 rfl rfl (by omega)) <|
     sq rfl (q_ld_op ty33 hb1 zin0 hqc rfl rfl (by omega)) <|
     sq_end) ?_
   clear hF hS; intro a w hF hS
   replace hS := hS.perm (.cons _ (.cons _ (.cons _ (.swap _ _ _))))
   replace hS := hS.perm (.cons _ (.cons _ (.swap _ _ _)))
   replace hS := hS.perm (.cons _ (.swap _ _ _))
   replace hS := hS.perm (.swap _ _ _)
   replace hS := hS.perm (.cons _ (.cons _ (.cons _ (.cons _ (.swap _ _ _)))))
   replace hS := hS.perm (.cons _ (.cons _ (.cons _ (.swap _ _ _))))
   replace hS := hS.perm (.cons _ (.cons _ (.swap _ _ _)))
   replace hS := hS.perm (.cons _ (.swap _ _ _))
   replace hS : St _ [] [_, _, _, _, _, _] _ := hS
   refine wpl_ef hF hS rfl (ef_callx fn12 rfl (List.Perm.refl _) (by exact (rdo_ct (os.getD ((j : Int)).toNat o0).k (os.getD ((j : Int)).toNat o0).i (os.getD ((j : Int)).toNat o0).b (os.getD ((j : Int)).toNat o0).t (os.getD ((j : Int)).toNat o0).ps pv hk9 hi9 hb9 ht9 _ _ _ hps9 zin0  (by first | assumption | exact Dk.ok_step (by assumption) | exact Dk.rst_ok (by assumption) _ _) (S := S) (v := vv4)))) ?_
   clear hF hS; rintro _ _ _ a w ⟨_, _, rfl, rfl, ⟨rfl, rfl, rfl⟩⟩ hF hS
   replace hS : St _ [] [_, _, _, _, _, _] _ := hS
   refine wpList_nil ?_
   refine hK11 _ _ ?_
   clear hK11
   refine reg hF hS (sq rfl (q_move rfl) <|
     sq rfl (q_addi rfl rfl (by omega)) <|
     sq rfl (q_assign rfl) <|
     sq_end) ?_
   clear hF hS; intro a w hF hS
   replace hS := hS.perm (.cons _ (.swap _ _ _))
   replace hS := hS.perm (.swap _ _ _)
   replace hS := hS.perm (.cons _ (.cons _ (.swap _ _ _)))
   replace hS := hS.perm (.cons _ (.swap _ _ _))
   replace hS := hS.perm (.cons _ (.cons _ (.cons _ (.swap _ _ _))))
   replace hS := hS.perm (.cons _ (.cons _ (.swap _ _ _)))
   replace hS := hS.perm (.cons _ (.cons _ (.cons _ (.cons _ (.swap _ _ _)))))
   replace hS := hS.perm (.cons _ (.cons _ (.cons _ (.swap _ _ _))))
   replace hS := hS.keep zQ sQ
   refine ⟨((Dk.act S ⟨(os.getD ((j : Int)).toNat o0).k, (os.getD ((j : Int)).toNat o0).i, (os.getD ((j : Int)).toNat o0).b, (os.getD ((j : Int)).toNat o0).t, (os.getD ((j : Int)).toNat o0).ps⟩).1, qa17, qb18, qc19, qd20, j + 1), ?_, ?_, hF.sub ⟨rfl, rfl, rfl, rfl, rfl, rfl, rfl, trivial⟩, ?_⟩
   ·(try dsimp only); omega
   ·exact ⟨by omega, hD21⟩
   ·exact hS
  ·refine wp_exit ?_
   refine hK7 _ _ ?_
   clear hK7
   refine wp_seq_k ?_; intro K13 hK13
   refine regl ?_
   refine wpl_sq hF hS (sq rfl (q_move rfl) <|
     sq_end) ?_
   clear hF hS; intro a w hF hS
   refine wpl_ef hF hS rfl (ef_callx fn28 rfl (List.Perm.refl _) (by exact (dclone_ct _ _ _ _  hDq))) ?_
   clear hF hS; rintro _ _ _ a w ⟨_, _, rfl, rfl, ⟨rfl, hh24, pa25, pb26, pc27, pd28, qa29, qb30, qc31, qd32, rfl, rfl, hE33, hD34⟩⟩ hF hS
   replace hS : St _ [] [_, _, _, _, _, _, _, _, _, _] _ := hS
   refine wpl_sq hF hS (sq rfl (q_assign rfl) <|
     sq_end) ?_
   clear hF hS; intro a w hF hS
   refine wpList_nil ?_
   refine hK13 _ _ ?_
   clear hK13
   refine wp_seq_k ?_; intro K14 hK14
   refine regl ?_
   refine wpl_sq hF hS (sq rfl (q_move rfl) <|
     sq_end) ?_
   clear hF hS; intro a w hF hS
   replace hS := hS.perm (.cons _ (.cons _ (.cons _ (.cons _ (.cons _ (.cons _ (.cons _ (.swap _ _ _))))))))
   replace hS := hS.perm (.cons _ (.cons _ (.cons _ (.cons _ (.cons _ (.cons _ (.swap _ _ _)))))))
   replace hS := hS.perm (.cons _ (.cons _ (.cons _ (.cons _ (.cons _ (.swap _ _ _))))))
   replace hS := hS.perm (.cons _ (.cons _ (.cons _ (.cons _ (.swap _ _ _)))))
   replace hS := hS.perm (.cons _ (.cons _ (.cons _ (.swap _ _ _))))
   replace hS := hS.perm (.cons _ (.cons _ (.swap _ _ _)))
   replace hS := hS.perm (.cons _ (.swap _ _ _))
   replace hS := hS.perm (.swap _ _ _)
   replace hS := hS.perm (.cons _ (.cons _ (.cons _ (.cons _ (.cons _ (.cons _ (.cons _ (.cons _ (.swap _ _ _)))))))))
   replace hS := hS.perm (.cons _ (.cons _ (.cons _ (.cons _ (.cons _ (.cons _ (.cons _ (.swap _ _ _))))))))
   replace hS := hS.perm (.cons _ (.cons _ (.cons _ (.cons _ (.cons _ (.cons _ (.swap _ _ _)))))))
   replace hS := hS.perm (.cons _ (.cons _ (.cons _ (.cons _ (.cons _ (.swap _ _ _))))))
   replace hS := hS.perm (.cons _ (.cons _ (.cons _ (.cons _ (.swap _ _ _)))))
   replace hS := hS.perm (.cons _ (.cons _ (.cons _ (.swap _ _ _))))
   replace hS := hS.perm (.cons _ (.cons _ (.swap _ _ _)))
   replace hS := hS.perm (.cons _ (.swap _ _ _))
   replace hS : St _ [] [_, _, _, _, _, _, _, _, _, _] _ := hS
   refine wpl_ef hF hS rfl (ef_callx fn29 rfl (List.Perm.refl _) (by exact (rclone_ct _ _  (by first | assumption | exact Dk.ok_step (by assumption) | exact Dk.rst_ok (by assumption) _ _) (S := S) (v := vv4)))) ?_
   clear hF hS; rintro _ _ _ a w ⟨_, _, rfl, rfl, ⟨rfl, bb40, vv41, rfl, rfl⟩⟩ hF hS
   replace hS : St _ [] [_, _, _, _, _, _, _, _, _, _, _, _] _ := hS
   refine wpl_sq hF hS (sq rfl (q_assign rfl) <|
     sq_end) ?_
   clear hF hS; intro a w hF hS
   refine wpList_nil ?_
   refine hK14 _ _ ?_
   clear hK14
   refine wp_seq_k ?_; intro K15 hK15
   refine wp_seq_k ?_; intro K16 hK16
   refine regl ?_
   refine wpl_sq hF hS (sq rfl (q_move rfl) <|
     sq rfl (q_eqpn_f ty24 rfl rfl) <|
     sq rfl (q_move rfl) <|
     sq_go 78 rfl rfl rfl (q_move rfl) <|
     sq_go 78 rfl rfl rfl (q_move rfl) <|
     sq_end) ?_
   clear hF hS; intro a w hF hS
   replace hS := hS.perm (.cons _ (.cons _ (.cons _ (.swap _ _ _))))
   replace hS := hS.perm (.cons _ (.cons _ (.swap _ _ _)))
   replace hS := hS.perm (.cons _ (.swap _ _ _))
   replace hS := hS.perm (.swap _ _ _)
   replace hS := hS.perm (.cons _ (.cons _ (.cons _ (.cons _ (.swap _ _ _)))))
   replace hS := hS.perm (.cons _ (.cons _ (.cons _ (.swap _ _ _))))
   replace hS := hS.perm (.cons _ (.cons _ (.swap _ _ _)))
   replace hS := hS.perm (.cons _ (.swap _ _ _))
   replace hS := hS.perm (.cons _ (.cons _ (.cons _ (.cons _ (.cons _ (.swap _ _ _))))))
   replace hS := hS.perm (.cons _ (.cons _ (.cons _ (.cons _ (.swap _ _ _)))))
   replace hS := hS.perm (.cons _ (.cons _ (.cons _ (.swap _ _ _))))
   replace hS := hS.perm (.cons _ (.cons _ (.swap _ _ _)))
   replace hS := hS.perm (.cons _ (.cons _ (.cons _ (.cons _ (.cons _ (.cons _ (.swap _ _ _)))))))
   replace hS := hS.perm (.cons _ (.cons _ (.cons _ (.cons _ (.cons _ (.swap _ _ _))))))
   replace hS := hS.perm (.cons _ (.cons _ (.cons _ (.cons _ (.swap _ _ _)))))
   replace hS := hS.perm (.cons _ (.cons _ (.cons _ (.swap _ _ _))))
   replace hS : St _ [] [_, _, _, _, _, _, _, _, _, _, _, _] _ := hS
   refine wpl_efg hF hS (wanted_go 78 rfl rfl) rfl (ef_callx fn13 rfl (List.Perm.refl _) (by exact (same_ct _ _ _ _  hE33 (v := vv41)))) ?_
   clear hF hS; rintro _ _ _ a w ⟨_, _, rfl, rfl, ⟨rfl, rfl, qa45, qb46, qc47, qd48, rfl, hD49⟩⟩ hF hS
   replace hS : St _ [] [_, _, _, _, _, _, _, _, _, _, _, _] _ := hS
   refine wpl_sq hF hS (sq_go 78 rfl rfl rfl (q_not rfl) <|
     sq rfl (q_pick_f rfl rfl) <|
     sq_end) ?_
   clear hF hS; intro a w hF hS
   refine wpList_nil ?_
   refine hK16 _ _ ?_
   clear hK16
   refine wp_if hF rfl (fun h => absurd h (by simp)) (fun _ => ?_)
   refine wp_skip ?_
   refine hK15 _ _ ?_
   clear hK15
   refine wp_seq_k ?_; intro K17 hK17
   refine wp_seq_k ?_; intro K18 hK18
   refine reg hF hS (sq rfl (q_assign rfl) <|
     sq_end) ?_
   clear hF hS; intro a w hF hS
   refine hK18 _ _ ?_
   clear hK18
   refine wp_block ?_
   obtain ⟨hs0, hhs0, hS⟩ : ∃ h, h = _ ∧ St _ _ h _ := ⟨_, rfl, hS⟩
   refine wp_loopx (γ := Dk.Dsk × Res × Res × Res × Res × Nat) (S, qa29, qb30, qc31, qd32, 0) (fun (gg : Dk.Dsk × Res × Res × Res × Res × Nat) => match gg with | (S2, q1b, q2b, q3b, q4b, j2) => [(16, vi (j2 : Int))]) [(2, _), (3, _), (9, _), (10, _), (11, _), (14, _), (15, _)] (fun (gg : Dk.Dsk × Res × Res × Res × Res × Nat) => match gg with | (S2, q1b, q2b, q3b, q4b, j2) => ((((((hs0.set 8 (q1b)).set 9 (q2b)).set 10 (q3b)).set 11 (q4b)).set 6 (RRB bb3 vv4 S2)).set 7 (RRW vv4 S2))) (fun (gg : Dk.Dsk × Res × Res × Res × Res × Nat) => match gg with | (S2, q1b, q2b, q3b, q4b, j2) => j2 ≤ os2.length ∧ DD hh2 S2 q1b q2b q3b q4b) (fun (gg : Dk.Dsk × Res × Res × Res × Res × Nat) => match gg with | (S2, q1b, q2b, q3b, q4b, j2) => os2.length - j2) (hF.sub ⟨rfl, rfl, rfl, rfl, rfl, rfl, rfl, rfl, trivial⟩) (by subst hhs0; exact hS) (by exact ⟨Nat.zero_le _, hD34⟩) ?_
   clear hF hS; rintro ⟨S2, q1b, q2b, q3b, q4b, j2⟩ a w hfact hF hS
   subst hhs0; (try dsimp only at hfact); (try dsimp only at hF); (try dsimp only at hS)
   obtain ⟨hj20, hDr⟩ := hfact
   have hOS2 := Dk.DOk.ok hDr
   replace hS : St _ [] [_, _, _, _, _, _, _, _, _, _, _, _] _ := hS
   refine wp_seq_k ?_; intro K19 hK19
   refine wp_seq_k ?_; intro K20 hK20
   refine reg hF hS (sq rfl (q_move rfl) <|
     sq rfl (q_move rfl) <|
     sq rfl (q_len_sl ty22 hb2 rfl) <|
     sq rfl (q_lti rfl rfl) <|
     sq_end) ?_
   clear hF hS; intro a w hF hS
   refine hK20 _ _ ?_
   clear hK20
   refine wp_ifd hF rfl (fun hc4 => ?_) (fun hc4 => ?_)
   ·obtain ⟨pvb, hqcb, hk9b, hi9b, hb9b, ht9b, hps9b⟩ := o_at hb2 (k := ((j2 : Int)).toNat) (by omega)
    refine wp_skip ?_
    refine hK19 _ _ ?_
    clear hK19
    refine wp_seq_k ?_; intro K21 hK21
    refine wp_block ?_
    refine wp_seq_k ?_; intro K22 hK22
    refine regl ?_
    refine wpl_sq hF hS (sq rfl (q_move rfl) <|
      sq rfl (q_move rfl) <|
      sq rfl (q_move rfl) <|
      sq rfl (q_idx_sl ty22 ty33 hb2 rfl rfl (by omega)) <|
      sq rfl (q_ld_op ty33 hb2 zin0 hqcb rfl rfl (by omega)) <|
      sq_end) ?_
    clear hF hS; intro a w hF hS
    replace hS := hS.perm (.cons _ (.cons _ (.cons _ (.cons _ (.cons _ (.cons _ (.cons _ (.swap _ _ _))))))))
    replace hS := hS.perm (.cons _ (.cons _ (.cons _ (.cons _ (.cons _ (.cons _ (.swap _ _ _)))))))
    replace hS := hS.perm (.cons _ (.cons _ (.cons _ (.cons _ (.cons _ (.swap _ _ _))))))
    replace hS := hS.perm (.cons _ (.cons _ (.cons _ (.cons _ (.swap _ _ _)))))
    replace hS := hS.perm (.cons _ (.cons _ (.cons _ (.swap _ _ _))))
    replace hS := hS.perm (.cons _ (.cons _ (.swap _ _ _)))
    replace hS := hS.perm (.cons _ (.swap _ _ _))
    replace hS := hS.perm (.swap _ _ _)
    replace hS := hS.perm (.cons _ (.cons _ (.cons _ (.cons _ (.cons _ (.cons _ (.cons _ (.cons _ (.swap _ _ _)))))))))
    replace hS := hS.perm (.cons _ (.cons _ (.cons _ (.cons _ (.cons _ (.cons _ (.cons _ (.swap _ _ _))))))))
    replace hS := hS.perm (.cons _ (.cons _ (.cons _ (.cons _ (.cons _ (.cons _ (.swap _ _ _)))))))
    replace hS := hS.perm (.cons _ (.cons _ (.cons _ (.cons _ (.cons _ (.swap _ _ _))))))
    replace hS := hS.perm (.cons _ (.cons _ (.cons _ (.cons _ (.swap _ _ _)))))
    replace hS := hS.perm (.cons _ (.cons _ (.cons _ (.swap _ _ _))))
    replace hS := hS.perm (.cons _ (.cons _ (.swap _ _ _)))
    replace hS := hS.perm (.cons _ (.swap _ _ _))
    replace hS := hS.perm (.cons _ (.cons _ (.cons _ (.cons _ (.cons _ (.cons _ (.cons _ (.cons _ (.cons _ (.swap _ _ _))))))))))
    replace hS := hS.perm (.cons _ (.cons _ (.cons _ (.cons _ (.cons _ (.cons _ (.cons _ (.cons _ (.swap _ _ _)))))))))
    replace hS := hS.perm (.cons _ (.cons _ (.cons _ (.cons _ (.cons _ (.cons _ (.cons _ (.swap _ _ _))))))))
    replace hS := hS.perm (.cons _ (.cons _ (.cons _ (.cons _ (.cons _ (.cons _ (.swap _ _ _)))))))
    replace hS := hS.perm (.cons _ (.cons _ (.cons _ (.cons _ (.cons _ (.swap _ _ _))))))
    replace hS := hS.perm (.cons _ (.cons _ (.cons _ (.cons _ (.swap _ _ _)))))
    replace hS := hS.perm (.cons _ (.cons _ (.cons _ (.swap _ _ _))))
    replace hS := hS.perm (.cons _ (.cons _ (.swap _ _ _)))
    replace hS := hS.perm (.cons _ (.cons _ (.cons _ (.cons _ (.cons _ (.cons _ (.cons _ (.cons _ (.cons _ (.cons _ (.swap _ _ _)))))))))))
    replace hS := hS.perm (.cons _ (.cons _ (.cons _ (.cons _ (.cons _ (.cons _ (.cons _ (.cons _ (.cons _ (.swap _ _ _))))))))))
    replace hS := hS.perm (.cons _ (.cons _ (.cons _ (.cons _ (.cons _ (.cons _ (.cons _ (.cons _ (.swap _ _ _)))))))))
    replace hS := hS.perm (.cons _ (.cons _ (.cons _ (.cons _ (.cons _ (.cons _ (.cons _ (.swap _ _ _))))))))
    replace hS := hS.perm (.cons _ (.cons _ (.cons _ (.cons _ (.cons _ (.cons _ (.swap _ _ _)))))))
    replace hS := hS.perm (.cons _ (.cons _ (.cons _ (.cons _ (.cons _ (.swap _ _ _))))))
    replace hS := hS.perm (.cons _ (.cons _ (.cons _ (.cons _ (.swap _ _ _)))))
    replace hS := hS.perm (.cons _ (.cons _ (.cons _ (.swap _ _ _))))
    replace hS : St _ [] [_, _, _, _, _, _, _, _, _, _, _, _] _ := hS
    refine wpl_ef hF hS rfl (ef_callx fn11 rfl (List.Perm.refl _) (by exact (do_ct _ _ (os2.getD ((j2 : Int)).toNat o0).k (os2.getD ((j2 : Int)).toNat o0).i (os2.getD ((j2 : Int)).toNat o0).b (os2.getD ((j2 : Int)).toNat o0).t (os2.getD ((j2 : Int)).toNat o0).ps pvb hk9b hi9b hb9b ht9b _ _ _ hps9b zin0  hDr))) ?_
    clear hF hS; rintro _ _ _ a w ⟨_, _, rfl, rfl, ⟨rfl, rfl, qa51, qb52, qc53, qd54, rfl, hD55⟩⟩ hF hS
    replace hS : St _ [] [_, _, _, _, _, _, _, _, _, _, _, _] _ := hS
    refine wpList_nil ?_
    refine hK22 _ _ ?_
    clear hK22
    refine regl ?_
    refine wpl_sq hF hS (sq rfl (q_move rfl) <|
      sq rfl (q_move rfl) <|
      sq rfl (q_move rfl) <|
      sq rfl (q_idx_sl ty22 ty33 hb2 rfl rfl (by omega)) <|
      sq rfl (q_ld_op ty33 hb2 zin0 hqcb rfl rfl (by omega)) <|
      sq_end) ?_
    clear hF hS; intro a w hF hS
    replace hS := hS.perm (.cons _ (.cons _ (.cons _ (.cons _ (.cons _ (.cons _ (.cons _ (.cons _ (.cons _ (.swap _ _ _))))))))))
    replace hS := hS.perm (.cons _ (.cons _ (.cons _ (.cons _ (.cons _ (.cons _ (.cons _ (.cons _ (.swap _ _ _)))))))))
    replace hS := hS.perm (.cons _ (.cons _ (.cons _ (.cons _ (.cons _ (.cons _ (.cons _ (.swap _ _ _))))))))
    replace hS := hS.perm (.cons _ (.cons _ (.cons _ (.cons _ (.cons _ (.cons _ (.swap _ _ _)))))))
    replace hS := hS.perm (.cons _ (.cons _ (.cons _ (.cons _ (.cons _ (.swap _ _ _))))))
    replace hS := hS.perm (.cons _ (.cons _ (.cons _ (.cons _ (.swap _ _ _)))))
    replace hS := hS.perm (.cons _ (.cons _ (.cons _ (.swap _ _ _))))
    replace hS := hS.perm (.cons _ (.cons _ (.swap _ _ _)))
    replace hS := hS.perm (.cons _ (.swap _ _ _))
    replace hS := hS.perm (.swap _ _ _)
    replace hS := hS.perm (.cons _ (.cons _ (.cons _ (.cons _ (.cons _ (.cons _ (.cons _ (.cons _ (.cons _ (.cons _ (.swap _ _ _)))))))))))
    replace hS := hS.perm (.cons _ (.cons _ (.cons _ (.cons _ (.cons _ (.cons _ (.cons _ (.cons _ (.cons _ (.swap _ _ _))))))))))
    replace hS := hS.perm (.cons _ (.cons _ (.cons _ (.cons _ (.cons _ (.cons _ (.cons _ (.cons _ (.swap _ _ _)))))))))
    replace hS := hS.perm (.cons _ (.cons _ (.cons _ (.cons _ (.cons _ (.cons _ (.cons _ (.swap _ _ _))))))))
    replace hS := hS.perm (.cons _ (.cons _ (.cons _ (.cons _ (.cons _ (.cons _ (.swap _ _ _)))))))
    replace hS := hS.perm (.cons _ (.cons _ (.cons _ (.cons _ (.cons _ (.swap _ _ _))))))
    replace hS := hS.perm (.cons _ (.cons _ (.cons _ (.cons _ (.swap _ _ _)))))
    replace hS := hS.perm (.cons _ (.cons _ (.cons _ (.swap _ _ _))))
    replace hS := hS.perm (.cons _ (.cons _ (.swap _ _ _)))
    replace hS := hS.perm (.cons _ (.swap _ _ _))
    replace hS : St _ [] [_, _, _, _, _, _, _, _, _, _, _, _] _ := hS
    refine wpl_ef hF hS rfl (ef_callx fn12 rfl (List.Perm.refl _) (by exact (rdo_ct (os2.getD ((j2 : Int)).toNat o0).k (os2.getD ((j2 : Int)).toNat o0).i (os2.getD ((j2 : Int)).toNat o0).b (os2.getD ((j2 : Int)).toNat o0).t (os2.getD ((j2 : Int)).toNat o0).ps pvb hk9b hi9b hb9b ht9b _ _ _ hps9b zin0  (by first | assumption | exact Dk.ok_step (by assumption) | exact Dk.rst_ok (by assumption) _ _) (S := S2) (v := vv4)))) ?_
    clear hF hS; rintro _ _ _ a w ⟨_, _, rfl, rfl, ⟨rfl, rfl, rfl⟩⟩ hF hS
    replace hS : St _ [] [_, _, _, _, _, _, _, _, _, _, _, _] _ := hS
    refine wpList_nil ?_
    refine hK21 _ _ ?_
    clear hK21
    refine reg hF hS (sq rfl (q_move rfl) <|
      sq rfl (q_addi rfl rfl (by omega)) <|
      sq rfl (q_assign rfl) <|
      sq_end) ?_
    clear hF hS; intro a w hF hS
    replace hS := hS.perm (.cons _ (.cons _ (.cons _ (.cons _ (.cons _ (.swap _ _ _))))))
    replace hS := hS.perm (.cons _ (.cons _ (.cons _ (.cons _ (.swap _ _ _)))))
    replace hS := hS.perm (.cons _ (.cons _ (.cons _ (.swap _ _ _))))
    replace hS := hS.perm (.cons _ (.cons _ (.swap _ _ _)))
    replace hS := hS.perm (.cons _ (.swap _ _ _))
    replace hS := hS.perm (.swap _ _ _)
    replace hS := hS.perm (.cons _ (.cons _ (.cons _ (.cons _ (.cons _ (.cons _ (.swap _ _ _)))))))
    replace hS := hS.perm (.cons _ (.cons _ (.cons _ (.cons _ (.cons _ (.swap _ _ _))))))
    replace hS := hS.perm (.cons _ (.cons _ (.cons _ (.cons _ (.swap _ _ _)))))
    replace hS := hS.perm (.cons _ (.cons _ (.cons _ (.swap _ _ _))))
    replace hS := hS.perm (.cons _ (.cons _ (.swap _ _ _)))
    replace hS := hS.perm (.cons _ (.swap _ _ _))
    replace hS := hS.perm (.cons _ (.cons _ (.cons _ (.cons _ (.cons _ (.cons _ (.cons _ (.swap _ _ _))))))))
    replace hS := hS.perm (.cons _ (.cons _ (.cons _ (.cons _ (.cons _ (.cons _ (.swap _ _ _)))))))
    replace hS := hS.perm (.cons _ (.cons _ (.cons _ (.cons _ (.cons _ (.swap _ _ _))))))
    replace hS := hS.perm (.cons _ (.cons _ (.cons _ (.cons _ (.swap _ _ _)))))
    replace hS := hS.perm (.cons _ (.cons _ (.cons _ (.swap _ _ _))))
    replace hS := hS.perm (.cons _ (.cons _ (.swap _ _ _)))
    replace hS := hS.perm (.cons _ (.cons _ (.cons _ (.cons _ (.cons _ (.cons _ (.cons _ (.cons _ (.swap _ _ _)))))))))
    replace hS := hS.perm (.cons _ (.cons _ (.cons _ (.cons _ (.cons _ (.cons _ (.cons _ (.swap _ _ _))))))))
    replace hS := hS.perm (.cons _ (.cons _ (.cons _ (.cons _ (.cons _ (.cons _ (.swap _ _ _)))))))
    replace hS := hS.perm (.cons _ (.cons _ (.cons _ (.cons _ (.cons _ (.swap _ _ _))))))
    replace hS := hS.perm (.cons _ (.cons _ (.cons _ (.cons _ (.swap _ _ _)))))
    replace hS := hS.perm (.cons _ (.cons _ (.cons _ (.swap _ _ _))))
    replace hS := hS.perm (.cons _ (.cons _ (.cons _ (.cons _ (.cons _ (.cons _ (.cons _ (.cons _ (.cons _ (.swap _ _ _))))))))))
    replace hS := hS.perm (.cons _ (.cons _ (.cons _ (.cons _ (.cons _ (.cons _ (.cons _ (.cons _ (.swap _ _ _)))))))))
    replace hS := hS.perm (.cons _ (.cons _ (.cons _ (.cons _ (.cons _ (.cons _ (.cons _ (.swap _ _ _))))))))
    replace hS := hS.perm (.cons _ (.cons _ (.cons _ (.cons _ (.cons _ (.cons _ (.swap _ _ _)))))))
    replace hS := hS.perm (.cons _ (.cons _ (.cons _ (.cons _ (.cons _ (.swap _ _ _))))))
    replace hS := hS.perm (.cons _ (.cons _ (.cons _ (.cons _ (.swap _ _ _)))))
    replace hS := hS.perm (.cons _ (.cons _ (.cons _ (.cons _ (.cons _ (.cons _ (.cons _ (.cons _ (.cons _ (.cons _ (.swap _ _ _)))))))))))
    replace hS := hS.perm (.cons _ (.cons _ (.cons _ (.cons _ (.cons _ (.cons _ (.cons _ (.cons _ (.cons _ (.swap _ _ _))))))))))
    replace hS := hS.perm (.cons _ (.cons _ (.cons _ (.cons _ (.cons _ (.cons _ (.cons _ (.cons _ (.swap _ _ _)))))))))
    replace hS := hS.perm (.cons _ (.cons _ (.cons _ (.cons _ (.cons _ (.cons _ (.cons _ (.swap _ _ _))))))))
    replace hS := hS.perm (.cons _ (.cons _ (.cons _ (.cons _ (.cons _ (.cons _ (.swap _ _ _)))))))
    replace hS := hS.perm (.cons _ (.cons _ (.cons _ (.cons _ (.cons _ (.swap _ _ _))))))
    replace hS := hS.keep zQ sQ
    refine ⟨((Dk.act S2 ⟨(os2.getD ((j2 : Int)).toNat o0).k, (os2.getD ((j2 : Int)).toNat o0).i, (os2.getD ((j2 : Int)).toNat o0).b, (os2.getD ((j2 : Int)).toNat o0).t, (os2.getD ((j2 : Int)).toNat o0).ps⟩).1, qa51, qb52, qc53, qd54, j2 + 1), ?_, ?_, hF.sub ⟨rfl, rfl, rfl, rfl, rfl, rfl, rfl, rfl, trivial⟩, ?_⟩
    ·(try dsimp only); omega
    ·exact ⟨by omega, hD55⟩
    ·exact hS
   ·refine wp_exit ?_
    refine hK17 _ _ ?_
    clear hK17
    refine wp_seq_k ?_; intro K23 hK23
    refine wp_seq_k ?_; intro K24 hK24
    refine reg hF hS (sq rfl (q_assign rfl) <|
      sq_end) ?_
    clear hF hS; intro a w hF hS
    refine hK24 _ _ ?_
    clear hK24
    refine wp_block ?_
    obtain ⟨hs0, hhs0, hS⟩ : ∃ h, h = _ ∧ St _ _ h _ := ⟨_, rfl, hS⟩
    refine wp_loopx (γ := Dk.Dsk × Res × Res × Res × Res × Nat) (S, qa45, qb46, qc47, qd48, 0) (fun (gg : Dk.Dsk × Res × Res × Res × Res × Nat) => match gg with | (S3, q1c, q2c, q3c, q4c, j3) => [(17, vi (j3 : Int))]) [(3, _), (9, _), (10, _), (11, _), (14, _), (15, _)] (fun (gg : Dk.Dsk × Res × Res × Res × Res × Nat) => match gg with | (S3, q1c, q2c, q3c, q4c, j3) => ((((((hs0.set 0 (q1c)).set 1 (q2c)).set 2 (q3c)).set 3 (q4c)).set 4 (RRB bb40 vv41 S3)).set 5 (RRW vv41 S3))) (fun (gg : Dk.Dsk × Res × Res × Res × Res × Nat) => match gg with | (S3, q1c, q2c, q3c, q4c, j3) => j3 ≤ os3.length ∧ DD hh24 S3 q1c q2c q3c q4c) (fun (gg : Dk.Dsk × Res × Res × Res × Res × Nat) => match gg with | (S3, q1c, q2c, q3c, q4c, j3) => os3.length - j3) (hF.sub ⟨rfl, rfl, rfl, rfl, rfl, rfl, rfl, trivial⟩) (by subst hhs0; exact hS) (by exact ⟨Nat.zero_le _, hD49⟩) ?_
    clear hF hS; rintro ⟨S3, q1c, q2c, q3c, q4c, j3⟩ a w hfact hF hS
    subst hhs0; (try dsimp only at hfact); (try dsimp only at hF); (try dsimp only at hS)
    obtain ⟨hj30, hDs⟩ := hfact
    have hOS3 := Dk.DOk.ok hDs
    replace hS : St _ [] [_, _, _, _, _, _, _, _, _, _, _, _] _ := hS
    refine wp_seq_k ?_; intro K25 hK25
    refine wp_seq_k ?_; intro K26 hK26
    refine reg hF hS (sq rfl (q_move rfl) <|
      sq rfl (q_move rfl) <|
      sq rfl (q_len_sl ty22 hb3 rfl) <|
      sq rfl (q_lti rfl rfl) <|
      sq_end) ?_
    clear hF hS; intro a w hF hS
    refine hK26 _ _ ?_
    clear hK26
    refine wp_ifd hF rfl (fun hc5 => ?_) (fun hc5 => ?_)
    ·obtain ⟨pvc, hqcc, hk9c, hi9c, hb9c, ht9c, hps9c⟩ := o_at hb3 (k := ((j3 : Int)).toNat) (by omega)
     refine wp_skip ?_
     refine hK25 _ _ ?_
     clear hK25
     refine wp_seq_k ?_; intro K27 hK27
     refine wp_block ?_
     refine wp_seq_k ?_; intro K28 hK28
     refine regl ?_
     refine wpl_sq hF hS (sq rfl (q_move rfl) <|
       sq rfl (q_move rfl) <|
       sq rfl (q_move rfl) <|
       sq rfl (q_idx_sl ty22 ty33 hb3 rfl rfl (by omega)) <|
       sq rfl (q_ld_op ty33 hb3 zin0 hqcc rfl rfl (by omega)) <|
       sq_end) ?_
     clear hF hS; intro a w hF hS
     refine wpl_ef hF hS rfl (ef_callx fn11 rfl (List.Perm.refl _) (by exact (do_ct _ _ (os3.getD ((j3 : Int)).toNat o0).k (os3.getD ((j3 : Int)).toNat o0).i (os3.getD ((j3 : Int)).toNat o0).b (os3.getD ((j3 : Int)).toNat o0).t (os3.getD ((j3 : Int)).toNat o0).ps pvc hk9c hi9c hb9c ht9c _ _ _ hps9c zin0  hDs))) ?_
     clear hF hS; rintro _ _ _ a w ⟨_, _, rfl, rfl, ⟨rfl, rfl, qa58, qb59, qc60, qd61, rfl, hD62⟩⟩ hF hS
     replace hS : St _ [] [_, _, _, _, _, _, _, _, _, _, _, _] _ := hS
     refine wpList_nil ?_
     refine hK28 _ _ ?_
     clear hK28
     refine regl ?_
     refine wpl_sq hF hS (sq rfl (q_move rfl) <|
       sq rfl (q_move rfl) <|
       sq rfl (q_move rfl) <|
       sq rfl (q_idx_sl ty22 ty33 hb3 rfl rfl (by omega)) <|
       sq rfl (q_ld_op ty33 hb3 zin0 hqcc rfl rfl (by omega)) <|
       sq_end) ?_
     clear hF hS; intro a w hF hS
     replace hS := hS.perm (.cons _ (.cons _ (.cons _ (.swap _ _ _))))
     replace hS := hS.perm (.cons _ (.cons _ (.swap _ _ _)))
     replace hS := hS.perm (.cons _ (.swap _ _ _))
     replace hS := hS.perm (.swap _ _ _)
     replace hS := hS.perm (.cons _ (.cons _ (.cons _ (.cons _ (.swap _ _ _)))))
     replace hS := hS.perm (.cons _ (.cons _ (.cons _ (.swap _ _ _))))
     replace hS := hS.perm (.cons _ (.cons _ (.swap _ _ _)))
     replace hS := hS.perm (.cons _ (.swap _ _ _))
     replace hS : St _ [] [_, _, _, _, _, _, _, _, _, _, _, _] _ := hS
     refine wpl_ef hF hS rfl (ef_callx fn12 rfl (List.Perm.refl _) (by exact (rdo_ct (os3.getD ((j3 : Int)).toNat o0).k (os3.getD ((j3 : Int)).toNat o0).i (os3.getD ((j3 : Int)).toNat o0).b (os3.getD ((j3 : Int)).toNat o0).t (os3.getD ((j3 : Int)).toNat o0).ps pvc hk9c hi9c hb9c ht9c _ _ _ hps9c zin0  (by first | assumption | exact Dk.ok_step (by assumption) | exact Dk.rst_ok (by assumption) _ _) (S := S3) (v := vv41)))) ?_
     clear hF hS; rintro _ _ _ a w ⟨_, _, rfl, rfl, ⟨rfl, rfl, rfl⟩⟩ hF hS
     replace hS : St _ [] [_, _, _, _, _, _, _, _, _, _, _, _] _ := hS
     refine wpList_nil ?_
     refine hK27 _ _ ?_
     clear hK27
     refine reg hF hS (sq rfl (q_move rfl) <|
       sq rfl (q_addi rfl rfl (by omega)) <|
       sq rfl (q_assign rfl) <|
       sq_end) ?_
     clear hF hS; intro a w hF hS
     replace hS := hS.perm (.cons _ (.swap _ _ _))
     replace hS := hS.perm (.swap _ _ _)
     replace hS := hS.perm (.cons _ (.cons _ (.swap _ _ _)))
     replace hS := hS.perm (.cons _ (.swap _ _ _))
     replace hS := hS.perm (.cons _ (.cons _ (.cons _ (.swap _ _ _))))
     replace hS := hS.perm (.cons _ (.cons _ (.swap _ _ _)))
     replace hS := hS.perm (.cons _ (.cons _ (.cons _ (.cons _ (.swap _ _ _)))))
     replace hS := hS.perm (.cons _ (.cons _ (.cons _ (.swap _ _ _))))
     replace hS := hS.keep zQ sQ
     refine ⟨((Dk.act S3 ⟨(os3.getD ((j3 : Int)).toNat o0).k, (os3.getD ((j3 : Int)).toNat o0).i, (os3.getD ((j3 : Int)).toNat o0).b, (os3.getD ((j3 : Int)).toNat o0).t, (os3.getD ((j3 : Int)).toNat o0).ps⟩).1, qa58, qb59, qc60, qd61, j3 + 1), ?_, ?_, hF.sub ⟨rfl, rfl, rfl, rfl, rfl, rfl, rfl, trivial⟩, ?_⟩
     ·(try dsimp only); omega
     ·exact ⟨by omega, hD62⟩
     ·exact hS
    ·refine wp_exit ?_
     refine hK23 _ _ ?_
     clear hK23
     refine wp_seq_k ?_; intro K29 hK29
     refine regl ?_
     refine wpl_sq hF hS (sq rfl (q_move rfl) <|
       sq rfl (q_move rfl) <|
       sq_go 121 rfl rfl rfl (q_move rfl) <|
       sq_go 121 rfl rfl rfl (q_move rfl) <|
       sq_end) ?_
     clear hF hS; intro a w hF hS
     replace hS := hS.perm (.cons _ (.cons _ (.cons _ (.cons _ (.cons _ (.cons _ (.cons _ (.swap _ _ _))))))))
     replace hS := hS.perm (.cons _ (.cons _ (.cons _ (.cons _ (.cons _ (.cons _ (.swap _ _ _)))))))
     replace hS := hS.perm (.cons _ (.cons _ (.cons _ (.cons _ (.cons _ (.swap _ _ _))))))
     replace hS := hS.perm (.cons _ (.cons _ (.cons _ (.cons _ (.swap _ _ _)))))
     replace hS := hS.perm (.cons _ (.cons _ (.cons _ (.swap _ _ _))))
     replace hS := hS.perm (.cons _ (.cons _ (.swap _ _ _)))
     replace hS := hS.perm (.cons _ (.swap _ _ _))
     replace hS := hS.perm (.swap _ _ _)
     replace hS := hS.perm (.cons _ (.cons _ (.cons _ (.cons _ (.cons _ (.cons _ (.cons _ (.cons _ (.swap _ _ _)))))))))
     replace hS := hS.perm (.cons _ (.cons _ (.cons _ (.cons _ (.cons _ (.cons _ (.cons _ (.swap _ _ _))))))))
     replace hS := hS.perm (.cons _ (.cons _ (.cons _ (.cons _ (.cons _ (.cons _ (.swap _ _ _)))))))
     replace hS := hS.perm (.cons _ (.cons _ (.cons _ (.cons _ (.cons _ (.swap _ _ _))))))
     replace hS := hS.perm (.cons _ (.cons _ (.cons _ (.cons _ (.swap _ _ _)))))
     replace hS := hS.perm (.cons _ (.cons _ (.cons _ (.swap _ _ _))))
     replace hS := hS.perm (.cons _ (.cons _ (.swap _ _ _)))
     replace hS := hS.perm (.cons _ (.swap _ _ _))
     replace hS := hS.perm (.cons _ (.cons _ (.cons _ (.cons _ (.cons _ (.cons _ (.cons _ (.cons _ (.cons _ (.swap _ _ _))))))))))
     replace hS := hS.perm (.cons _ (.cons _ (.cons _ (.cons _ (.cons _ (.cons _ (.cons _ (.cons _ (.swap _ _ _)))))))))
     replace hS := hS.perm (.cons _ (.cons _ (.cons _ (.cons _ (.cons _ (.cons _ (.cons _ (.swap _ _ _))))))))
     replace hS := hS.perm (.cons _ (.cons _ (.cons _ (.cons _ (.cons _ (.cons _ (.swap _ _ _)))))))
     replace hS := hS.perm (.cons _ (.cons _ (.cons _ (.cons _ (.cons _ (.swap _ _ _))))))
     replace hS := hS.perm (.cons _ (.cons _ (.cons _ (.cons _ (.swap _ _ _)))))
     replace hS := hS.perm (.cons _ (.cons _ (.cons _ (.swap _ _ _))))
     replace hS := hS.perm (.cons _ (.cons _ (.swap _ _ _)))
     replace hS := hS.perm (.cons _ (.cons _ (.cons _ (.cons _ (.cons _ (.cons _ (.cons _ (.cons _ (.cons _ (.cons _ (.swap _ _ _)))))))))))
     replace hS := hS.perm (.cons _ (.cons _ (.cons _ (.cons _ (.cons _ (.cons _ (.cons _ (.cons _ (.cons _ (.swap _ _ _))))))))))
     replace hS := hS.perm (.cons _ (.cons _ (.cons _ (.cons _ (.cons _ (.cons _ (.cons _ (.cons _ (.swap _ _ _)))))))))
     replace hS := hS.perm (.cons _ (.cons _ (.cons _ (.cons _ (.cons _ (.cons _ (.cons _ (.swap _ _ _))))))))
     replace hS := hS.perm (.cons _ (.cons _ (.cons _ (.cons _ (.cons _ (.cons _ (.swap _ _ _)))))))
     replace hS := hS.perm (.cons _ (.cons _ (.cons _ (.cons _ (.cons _ (.swap _ _ _))))))
     replace hS := hS.perm (.cons _ (.cons _ (.cons _ (.cons _ (.swap _ _ _)))))
     replace hS := hS.perm (.cons _ (.cons _ (.cons _ (.swap _ _ _))))
     replace hS := hS.perm (.cons _ (.cons _ (.cons _ (.cons _ (.cons _ (.cons _ (.cons _ (.cons _ (.cons _ (.swap _ _ _))))))))))
     replace hS := hS.perm (.cons _ (.cons _ (.cons _ (.cons _ (.cons _ (.cons _ (.cons _ (.cons _ (.swap _ _ _)))))))))
     replace hS := hS.perm (.cons _ (.cons _ (.cons _ (.cons _ (.cons _ (.cons _ (.cons _ (.swap _ _ _))))))))
     replace hS := hS.perm (.cons _ (.cons _ (.cons _ (.cons _ (.cons _ (.cons _ (.swap _ _ _)))))))
     replace hS := hS.perm (.cons _ (.cons _ (.cons _ (.cons _ (.cons _ (.swap _ _ _))))))
     replace hS := hS.perm (.cons _ (.cons _ (.cons _ (.cons _ (.swap _ _ _)))))
     replace hS := hS.perm (.cons _ (.cons _ (.cons _ (.cons _ (.cons _ (.cons _ (.cons _ (.cons _ (.cons _ (.cons _ (.swap _ _ _)))))))))))
     replace hS := hS.perm (.cons _ (.cons _ (.cons _ (.cons _ (.cons _ (.cons _ (.cons _ (.cons _ (.cons _ (.swap _ _ _))))))))))
     replace hS := hS.perm (.cons _ (.cons _ (.cons _ (.cons _ (.cons _ (.cons _ (.cons _ (.cons _ (.swap _ _ _)))))))))
     replace hS := hS.perm (.cons _ (.cons _ (.cons _ (.cons _ (.cons _ (.cons _ (.cons _ (.swap _ _ _))))))))
     replace hS := hS.perm (.cons _ (.cons _ (.cons _ (.cons _ (.cons _ (.cons _ (.swap _ _ _)))))))
     replace hS := hS.perm (.cons _ (.cons _ (.cons _ (.cons _ (.cons _ (.swap _ _ _))))))
     replace hS : St _ [] [_, _, _, _, _, _, _, _, _, _, _, _] _ := hS
     refine wpl_efg hF hS (wanted_go 121 rfl rfl) rfl (ef_callx fn13 rfl (List.Perm.refl _) (by exact (same_ct _ _ _ _  hDr (v := vv4)))) ?_
     clear hF hS; rintro _ _ _ a w ⟨_, _, rfl, rfl, ⟨rfl, rfl, qa65, qb66, qc67, qd68, rfl, hD69⟩⟩ hF hS
     replace hS : St _ [] [_, _, _, _, _, _, _, _, _, _, _, _] _ := hS
     refine wpl_sq hF hS (sq rfl (q_pick_t rfl rfl) <|
       sq rfl (q_move rfl) <|
       sq_go 126 rfl rfl rfl (q_move rfl) <|
       sq_go 126 rfl rfl rfl (q_move rfl) <|
       sq_end) ?_
     clear hF hS; intro a w hF hS
     replace hS := hS.perm (.cons _ (.cons _ (.cons _ (.cons _ (.cons _ (.swap _ _ _))))))
     replace hS := hS.perm (.cons _ (.cons _ (.cons _ (.cons _ (.swap _ _ _)))))
     replace hS := hS.perm (.cons _ (.cons _ (.cons _ (.swap _ _ _))))
     replace hS := hS.perm (.cons _ (.cons _ (.swap _ _ _)))
     replace hS := hS.perm (.cons _ (.swap _ _ _))
     replace hS := hS.perm (.swap _ _ _)
     replace hS := hS.perm (.cons _ (.cons _ (.cons _ (.cons _ (.cons _ (.cons _ (.swap _ _ _)))))))
     replace hS := hS.perm (.cons _ (.cons _ (.cons _ (.cons _ (.cons _ (.swap _ _ _))))))
     replace hS := hS.perm (.cons _ (.cons _ (.cons _ (.cons _ (.swap _ _ _)))))
     replace hS := hS.perm (.cons _ (.cons _ (.cons _ (.swap _ _ _))))
     replace hS := hS.perm (.cons _ (.cons _ (.swap _ _ _)))
     replace hS := hS.perm (.cons _ (.swap _ _ _))
     replace hS := hS.perm (.cons _ (.cons _ (.cons _ (.cons _ (.cons _ (.cons _ (.cons _ (.swap _ _ _))))))))
     replace hS := hS.perm (.cons _ (.cons _ (.cons _ (.cons _ (.cons _ (.cons _ (.swap _ _ _)))))))
     replace hS := hS.perm (.cons _ (.cons _ (.cons _ (.cons _ (.cons _ (.swap _ _ _))))))
     replace hS := hS.perm (.cons _ (.cons _ (.cons _ (.cons _ (.swap _ _ _)))))
     replace hS := hS.perm (.cons _ (.cons _ (.cons _ (.swap _ _ _))))
     replace hS := hS.perm (.cons _ (.cons _ (.swap _ _ _)))
     replace hS := hS.perm (.cons _ (.cons _ (.cons _ (.cons _ (.cons _ (.cons _ (.cons _ (.cons _ (.swap _ _ _)))))))))
     replace hS := hS.perm (.cons _ (.cons _ (.cons _ (.cons _ (.cons _ (.cons _ (.cons _ (.swap _ _ _))))))))
     replace hS := hS.perm (.cons _ (.cons _ (.cons _ (.cons _ (.cons _ (.cons _ (.swap _ _ _)))))))
     replace hS := hS.perm (.cons _ (.cons _ (.cons _ (.cons _ (.cons _ (.swap _ _ _))))))
     replace hS := hS.perm (.cons _ (.cons _ (.cons _ (.cons _ (.swap _ _ _)))))
     replace hS := hS.perm (.cons _ (.cons _ (.cons _ (.swap _ _ _))))
     replace hS := hS.perm (.cons _ (.cons _ (.cons _ (.cons _ (.cons _ (.cons _ (.cons _ (.cons _ (.cons _ (.swap _ _ _))))))))))
     replace hS := hS.perm (.cons _ (.cons _ (.cons _ (.cons _ (.cons _ (.cons _ (.cons _ (.cons _ (.swap _ _ _)))))))))
     replace hS := hS.perm (.cons _ (.cons _ (.cons _ (.cons _ (.cons _ (.cons _ (.cons _ (.swap _ _ _))))))))
     replace hS := hS.perm (.cons _ (.cons _ (.cons _ (.cons _ (.cons _ (.cons _ (.swap _ _ _)))))))
     replace hS := hS.perm (.cons _ (.cons _ (.cons _ (.cons _ (.cons _ (.swap _ _ _))))))
     replace hS := hS.perm (.cons _ (.cons _ (.cons _ (.cons _ (.swap _ _ _)))))
     replace hS := hS.perm (.cons _ (.cons _ (.cons _ (.cons _ (.cons _ (.cons _ (.cons _ (.cons _ (.cons _ (.cons _ (.swap _ _ _)))))))))))
     replace hS := hS.perm (.cons _ (.cons _ (.cons _ (.cons _ (.cons _ (.cons _ (.cons _ (.cons _ (.cons _ (.swap _ _ _))))))))))
     replace hS := hS.perm (.cons _ (.cons _ (.cons _ (.cons _ (.cons _ (.cons _ (.cons _ (.cons _ (.swap _ _ _)))))))))
     replace hS := hS.perm (.cons _ (.cons _ (.cons _ (.cons _ (.cons _ (.cons _ (.cons _ (.swap _ _ _))))))))
     replace hS := hS.perm (.cons _ (.cons _ (.cons _ (.cons _ (.cons _ (.cons _ (.swap _ _ _)))))))
     replace hS := hS.perm (.cons _ (.cons _ (.cons _ (.cons _ (.cons _ (.swap _ _ _))))))
     replace hS : St _ [] [_, _, _, _, _, _, _, _, _, _, _, _] _ := hS
     refine wpl_efg hF hS (wanted_go 126 rfl rfl) rfl (ef_callx fn13 rfl (List.Perm.refl _) (by exact (same_ct _ _ _ _  hDs (v := vv41)))) ?_
     clear hF hS; rintro _ _ _ a w ⟨_, _, rfl, rfl, ⟨rfl, rfl, qa71, qb72, qc73, qd74, rfl, hD75⟩⟩ hF hS
     replace hS : St _ [] [_, _, _, _, _, _, _, _, _, _, _, _] _ := hS
     refine wpl_sq hF hS (sq rfl (q_pick_t rfl rfl) <|
       sq rfl (q_assign rfl) <|
       sq_end) ?_
     clear hF hS; intro a w hF hS
     refine wpList_nil ?_
     refine hK29 _ _ ?_
     clear hK29
     refine wp_ret ?_
     exact fn_ret (rs := [.tmp 8]) rfl hF hS (vs := [_]) ⟨rfl, trivial⟩ zQ zQ (rfl)

set_option maxRecDepth 4000 in
set_option maxHeartbeats 2000000 in
theorem dlaw6x_ct (n : Int) (hn : ¬ (1 ≤ n ∧ n ≤ 64)) (v : Value) (os : List Dk.Op) (v2 : Value) (os2 : List Dk.Op) (v3 : Value) (os3 : List Dk.Op) (w : World) (hb1 : Sl Go.Fw.encO (ph w) v os) (hb2 : Sl Go.Fw.encO (ph w) v2 os2) (hb3 : Sl Go.Fw.encO (ph w) v3 os3) : Ct Try.prog 8 [vi n, v, v2, v3] w (fun r _ _ => r = .bool true) := by
 refine fn_enter Try.func8 rfl Try.ntmps8 (Nat.le_of_ble_eq_true rfl) fun a hF hS => ?_
 have hol := hb1.1
 refine wp_seq_k ?_; intro K1 hK1
 refine reg hF hS (sq rfl (q_assign rfl) <|
   sq_end) ?_
 clear hF hS; intro a w hF hS
 refine hK1 _ _ ?_
 clear hK1
 refine wp_seq_k ?_; intro K2 hK2
 refine reg hF hS (sq rfl (q_call fn9 rfl (fun w hS => sanity_ct w ) (fun _ _ _ h => h)) <|
   sq rfl (q_assign rfl) <|
   sq_end) ?_
 clear hF hS; intro a w hF hS
 refine hK2 _ _ ?_
 clear hK2
 refine wp_seq_k ?_; intro K3 hK3
 refine reg hF hS (sq rfl (q_move rfl) <|
   sq rfl (q_call fn10 rfl (fun w hS => startx_ct _ (by omega) w ) (fun _ _ _ h => h)) <|
   sq rfl (q_move rfl) <|
   sq rfl (q_extract rfl rfl) <|
   sq rfl (q_extract rfl rfl) <|
   sq rfl (q_extract rfl rfl) <|
   sq rfl (q_assign rfl) <|
   sq rfl (q_assign rfl) <|
   sq rfl (q_assign rfl) <|
   sq_end) ?_
 clear hF hS; intro a w hF hS
 refine hK3 _ _ ?_
 clear hK3
 refine wp_seq_k ?_; intro K4 hK4
 refine wp_seq_k ?_; intro K5 hK5
 refine reg hF hS (sq rfl (q_move rfl) <|
   sq rfl (q_not rfl) <|
   sq rfl (q_move rfl) <|
   sq_skip 27 rfl rfl rfl rfl <|
   sq_skip 27 rfl rfl rfl rfl <|
   sq_skip 27 rfl rfl rfl rfl <|
   sq rfl (q_pick_t rfl rfl) <|
   sq rfl (q_move rfl) <|
   sq_skip 32 rfl rfl rfl rfl <|
   sq_skip 32 rfl rfl rfl rfl <|
   sq_skip 32 rfl rfl rfl rfl <|
   sq rfl (q_pick_t rfl rfl) <|
   sq rfl (q_move rfl) <|
   sq_skip 37 rfl rfl rfl rfl <|
   sq_skip 37 rfl rfl rfl rfl <|
   sq_skip 37 rfl rfl rfl rfl <|
   sq rfl (q_pick_t rfl rfl) <|
   sq_end) ?_
 clear hF hS; intro a w hF hS
 refine hK5 _ _ ?_
 clear hK5
 refine wp_if hF rfl (fun _ => ?_) (fun h => absurd h (by simp))
 refine wp_seq_k ?_; intro K6 hK6
 rcases Decidable.em (n < 1) with hB | hB
 ·skip
  refine reg hF hS (sq rfl (q_move rfl) <|
    sq rfl (q_move rfl) <|
    sq_go 43 rfl rfl rfl (q_move rfl) <|
    sq_go 43 rfl rfl rfl (q_move rfl) <|
    sq_go 45 rfl rfl rfl (q_move rfl) <|
    sq_go 45 rfl rfl rfl (q_dt (q_lti rfl rfl) (by simpa using hB)) <|
    sq_go 43 rfl rfl rfl (q_pick_f rfl rfl) <|
    sq_go 43 rfl rfl rfl (q_move rfl) <|
    sq_skip 49 rfl rfl rfl rfl <|
    sq_skip 49 rfl rfl rfl rfl <|
    sq_go 43 rfl rfl rfl (q_pick_t rfl rfl) <|
    sq rfl (q_pick_t rfl rfl) <|
    sq rfl (q_assign rfl) <|
    sq_end) ?_
  clear hF hS; intro a w hF hS
  refine hK6 _ _ ?_
  clear hK6
  refine wp_ret ?_
  exact fn_ret (rs := [.tmp 8]) rfl hF hS (vs := [_]) ⟨rfl, trivial⟩ zQ zQ (rfl)
 ·skip
  refine reg hF hS (sq rfl (q_move rfl) <|
    sq rfl (q_move rfl) <|
    sq_go 43 rfl rfl rfl (q_move rfl) <|
    sq_go 43 rfl rfl rfl (q_move rfl) <|
    sq_go 45 rfl rfl rfl (q_move rfl) <|
    sq_go 45 rfl rfl rfl (q_df (q_lti rfl rfl) (by simpa using hB)) <|
    sq_go 43 rfl rfl rfl (q_pick_f rfl rfl) <|
    sq_go 43 rfl rfl rfl (q_move rfl) <|
    sq_go 49 rfl rfl rfl (q_move rfl) <|
    sq_go 49 rfl rfl rfl (q_dt (q_gti rfl rfl) (by omega)) <|
    sq_go 43 rfl rfl rfl (q_pick_f rfl rfl) <|
    sq rfl (q_pick_t rfl rfl) <|
    sq rfl (q_assign rfl) <|
    sq_end) ?_
  clear hF hS; intro a w hF hS
  refine hK6 _ _ ?_
  clear hK6
  refine wp_ret ?_
  exact fn_ret (rs := [.tmp 8]) rfl hF hS (vs := [_]) ⟨rfl, trivial⟩ zQ zQ (rfl)

theorem dlaw6_all (n : Int) (v : Value) (os : List Dk.Op) (v2 : Value) (os2 : List Dk.Op) (v3 : Value) (os3 : List Dk.Op) (w : World) (hb1 : Sl Go.Fw.encO (ph w) v os) (hb2 : Sl Go.Fw.encO (ph w) v2 os2) (hb3 : Sl Go.Fw.encO (ph w) v3 os3) : Ct Try.prog 8 [vi n, v, v2, v3] w (fun r _ _ => r = .bool true) := by
 rcases Decidable.em (1 ≤ n ∧ n ≤ 64) with h | h
 ·obtain ⟨m, rfl⟩ : ∃ m : Nat, n = (m : Int) := ⟨n.toNat, by omega⟩
  exact dlaw6_ct m (by omega) v os v2 os2 v3 os3 w hb1 hb2 hb3
 ·exact dlaw6x_ct n h v os v2 os2 v3 os3 w hb1 hb2 hb3
end Go.Proofs.Ytbgbfmdnpjpdgaa
