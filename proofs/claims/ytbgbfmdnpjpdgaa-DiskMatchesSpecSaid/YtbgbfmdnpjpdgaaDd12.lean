/- A text of a proof over this seat: walks over the program's functions and the plain laws that they need. -/
import Derived.Test.YtbgbfmdnpjpdgaaDd11
import Derived.Test.YtbgbfmdnpjpdgaaFwE
import Derived.Test.YtbgbfmdnpjpdgaaFwB
set_option linter.all false
namespace Go.Proofs.Ytbgbfmdnpjpdgaa
open Go.Fw
theorem ty22 : Tf Try.prog 22 (.slice 33) 1 24 (Value.slice none 0 0) := ⟨Try.underlying22, by kernel_rfl⟩
theorem fn9 : FnOk Try.prog 9 := ⟨_, Try.func9, rfl, by kernel_rfl⟩
theorem fn10 : FnOk Try.prog 10 := ⟨_, Try.func10, rfl, by kernel_rfl⟩
theorem fn11 : FnOk Try.prog 11 := ⟨_, Try.func11, rfl, by kernel_rfl⟩
theorem fn12 : FnOk Try.prog 12 := ⟨_, Try.func12, rfl, by kernel_rfl⟩
theorem fn13 : FnOk Try.prog 13 := ⟨_, Try.func13, rfl, by kernel_rfl⟩

set_option maxRecDepth 4000 in
set_option maxHeartbeats 2000000 in
theorem dlaw1_ct (n : Nat) (hn : 1 ≤ n ∧ n ≤ 64) (v : Value) (os : List Dk.Op) (w : World) (hb1 : Sl Go.Fw.encO (ph w) v os) : Ct Try.prog 3 [vi (n : Int), v] w (fun r _ _ => r = .bool true) := by
 refine fn_enter Try.func3 rfl Try.ntmps3 (Nat.le_of_ble_eq_true rfl) fun a hF hS => ?_
 have hol := hb1.1
 refine wp_seq_k ?_; intro K1 hK1
 refine reg hF hS (sq rfl (q_assign rfl) <|
   sq_end) ?_
 clear hF hS; intro a w hF hS
 refine hK1 _ _ ?_
 clear hK1
 refine wp_seq_k ?_; intro K2 hK2
 refine reg hF hS (sq rfl (q_call fn9 rfl (fun w hS => sanity_ct w ) (fun _ _ _ h => h)) <|
   sq rfl (q_assign rfl) <|
   sq_end) ?_
 clear hF hS; intro a w hF hS
 refine hK2 _ _ ?_
 clear hK2
 refine wp_seq_k ?_; intro K3 hK3
 refine regl ?_
 refine wpl_sq hF hS (sq rfl (q_move rfl) <|
   sq_end) ?_
 clear hF hS; intro a w hF hS
 refine wpl_ef hF hS rfl (ef_call fn10 rfl (fun w hS => start_ct _ (by omega) w )) ?_
 clear hF hS; rintro _ _ _ a w ⟨_, _, rfl, rfl, ⟨rfl, hh2, bb3, vv4, qa5, qb6, qc7, qd8, rfl, rfl, hD9⟩⟩ hF hS
 replace hS : St _ [] [_, _, _, _, _, _] _ := hS
 refine wpl_sq hF hS (sq rfl (q_move rfl) <|
   sq rfl (q_extract rfl rfl) <|
   sq rfl (q_extract rfl rfl) <|
   sq rfl (q_extract rfl rfl) <|
   sq rfl (q_assign rfl) <|
   sq rfl (q_assign rfl) <|
   sq rfl (q_assign rfl) <|
   sq_end) ?_
 clear hF hS; intro a w hF hS
 refine wpList_nil ?_
 refine hK3 _ _ ?_
 clear hK3
 refine wp_seq_k ?_; intro K4 hK4
 refine wp_seq_k ?_; intro K5 hK5
 refine reg hF hS (sq rfl (q_move rfl) <|
   sq rfl (q_not rfl) <|
   sq rfl (q_move rfl) <|
   sq_go 23 rfl rfl rfl (q_move rfl) <|
   sq_go 23 rfl rfl rfl (q_len_sl ty22 hb1 rfl) <|
   sq_go 23 rfl rfl rfl (q_gti rfl rfl) <|
   sq rfl (q_pick_f rfl rfl) <|
   sq_end) ?_
 clear hF hS; intro a w hF hS
 refine hK5 _ _ ?_
 clear hK5
 refine wp_ifd hF rfl (fun hc1 => ?_) (fun hc1 => ?_)
 ·refine wp_seq_k ?_; intro K6 hK6
  refine reg hF hS (sq rfl (q_move rfl) <|
    sq rfl (q_move rfl) <|
    sq_go 29 rfl rfl rfl (q_move rfl) <|
    sq_go 29 rfl rfl rfl (q_move rfl) <|
    sq_skip 31 rfl rfl rfl rfl <|
    sq_skip 31 rfl rfl rfl rfl <|
    sq_go 29 rfl rfl rfl (q_pick_t rfl rfl) <|
    sq_go 29 rfl rfl rfl (q_move rfl) <|
    sq_skip 35 rfl rfl rfl rfl <|
    sq_skip 35 rfl rfl rfl rfl <|
    sq_go 29 rfl rfl rfl (q_pick_t rfl rfl) <|
    sq rfl (q_pick_t rfl rfl) <|
    sq rfl (q_assign rfl) <|
    sq_end) ?_
  clear hF hS; intro a w hF hS
  refine hK6 _ _ ?_
  clear hK6
  refine wp_ret ?_
  exact fn_ret (rs := [.tmp 4]) rfl hF hS (vs := [_]) ⟨rfl, trivial⟩ zQ zQ (rfl)
 ·refine wp_skip ?_
  refine hK4 _ _ ?_
  clear hK4
  refine wp_seq_k ?_; intro K7 hK7
  refine wp_seq_k ?_; intro K8 hK8
  refine reg hF hS (sq rfl (q_assign rfl) <|
    sq_end) ?_
  clear hF hS; intro a w hF hS
  refine hK8 _ _ ?_
  clear hK8
  refine wp_block ?_
  obtain ⟨hs0, hhs0, hS⟩ : ∃ h, h = _ ∧ St _ _ h _ := ⟨_, rfl, hS⟩
  refine wp_loopx (γ := Dk.Dsk × Res × Res × Res × Res × Nat) ((Dk.new n), qa5, qb6, qc7, qd8, 0) (fun (gg : Dk.Dsk × Res × Res × Res × Res × Nat) => match gg with | (S, q1, q2, q3, q4, j) => [(9, vi (j : Int))]) [(1, _), (5, _), (6, _), (7, _)] (fun (gg : Dk.Dsk × Res × Res × Res × Res × Nat) => match gg with | (S, q1, q2, q3, q4, j) => ((((((hs0.set 0 (q1)).set 1 (q2)).set 2 (q3)).set 3 (q4)).set 4 (RRB bb3 vv4 S)).set 5 (RRW vv4 S))) (fun (gg : Dk.Dsk × Res × Res × Res × Res × Nat) => match gg with | (S, q1, q2, q3, q4, j) => j ≤ os.length ∧ DD hh2 S q1 q2 q3 q4) (fun (gg : Dk.Dsk × Res × Res × Res × Res × Nat) => match gg with | (S, q1, q2, q3, q4, j) => os.length - j) (hF.sub ⟨rfl, rfl, rfl, rfl, rfl, trivial⟩) (by subst hhs0; exact hS) (by exact ⟨Nat.zero_le _, hD9⟩) ?_
  clear hF hS; rintro ⟨S, q1, q2, q3, q4, j⟩ a w hfact hF hS
  subst hhs0; (try dsimp only at hfact); (try dsimp only at hF); (try dsimp only at hS)
  obtain ⟨hj0, hDq⟩ := hfact
  have hOS := Dk.DOk.ok hDq
  replace hS : St _ [] [_, _, _, _, _, _] _ := hS
  refine wp_seq_k ?_; intro K9 hK9
  refine wp_seq_k ?_; intro K10 hK10
  refine reg hF hS (sq rfl (q_move rfl) <|
    sq rfl (q_move rfl) <|
    sq rfl (q_len_sl ty22 hb1 rfl) <|
    sq rfl (q_lti rfl rfl) <|
    sq_end) ?_
  clear hF hS; intro a w hF hS
  refine hK10 _ _ ?_
  clear hK10
  refine wp_ifd hF rfl (fun hc2 => ?_) (fun hc2 => ?_)
  ·obtain ⟨pv, hqc, hk9, hi9, hb9, ht9, hps9⟩ := o_at hb1 (k := ((j : Int)).toNat) (by omega)
   refine wp_skip ?_
   refine hK9 _ _ ?_
   clear hK9
   refine wp_seq_k ?_; intro K11 hK11
   refine wp_block ?_
   refine wp_seq_k ?_; intro K12 hK12
   refine regl ?_
   refine wpl_sq hF hS (sq rfl (q_move rfl) <|
     sq rfl (q_move rfl) <|
     sq rfl (q_move rfl) <|
     sq rfl (q_idx_sl ty22 ty33 hb1 rfl rfl (by omega)) <|
     sq rfl (q_ld_op ty33 hb1 zin0 hqc rfl rfl (by omega)) <|
     sq_end) ?_
   clear hF hS; intro a w hF hS
   refine wpl_ef hF hS rfl (ef_callx fn11 rfl (List.Perm.refl _) (by exact (do_ct _ _ (os.getD ((j : Int)).toNat o0).k (os.getD ((j : Int)).toNat o0).i (os.getD ((j : Int)).toNat o0).b (os.getD ((j : Int)).toNat o0).t (os.getD ((j : Int)).toNat o0).ps pv hk9 hi9 hb9 ht9 _ _ _ hps9 zin0  hDq))) ?_
   clear hF hS; rintro _ _ _ a w ⟨_, _, rfl, rfl, ⟨rfl, rfl, qa17, qb18, qc19, qd20, rfl, hD21⟩⟩ hF hS
   replace hS : St _ [] [_, _, _, _, _, _] _ := hS
   refine wpl_sq hF hS (sq rfl (q_move rfl) <|
     sq rfl (q_extract rfl rfl) <|
     sq rfl (q_extract rfl rfl) <|
     sq rfl (q_assign rfl) <|
     sq rfl (q_assign rfl) <|
     sq_end) ?_
   clear hF hS; intro a w hF hS
   refine wpList_nil ?_
   refine hK12 _ _ ?_
   clear hK12
   refine wp_seq_k ?_; intro K13 hK13
   refine regl ?_
   refine wpl_sq hF hS (sq rfl (q_move rfl) <|
     sq rfl (q_move rfl) <|
     sq rfl (q_move rfl) <|
     sq rfl (q_idx_sl ty22 ty33 hb1 rfl rfl (by omega)) <|
     sq rfl (q_ld_op ty33 hb1 zin0 hqc rfl rfl (by omega)) <|
     sq_end) ?_
   clear hF hS; intro a w hF hS
   replace hS := hS.perm (.cons _ (.cons _ (.cons _ (.swap _ _ _))))
   replace hS := hS.perm (.cons _ (.cons _ (.swap _ _ _)))
   replace hS := hS.perm (.cons _ (.swap _ _ _))
   replace hS := hS.perm (.swap _ _ _)
   replace hS := hS.perm (.cons _ (.cons _ (.cons _ (.cons _ (.swap _ _ _)))))
   replace hS := hS.perm (.cons _ (.cons _ (.cons _ (.swap _ _ _))))
   replace hS := hS.perm (.cons _ (.cons _ (.swap _ _ _)))
   replace hS := hS.perm (.cons _ (.swap _ _ _))
   replace hS : St _ [] [_, _, _, _, _, _] _ := hS
   refine wpl_ef hF hS rfl (ef_callx fn12 rfl (List.Perm.refl _) (by exact (rdo_ct (os.getD ((j : Int)).toNat o0).k (os.getD ((j : Int)).toNat o0).i (os.getD ((j : Int)).toNat o0).b (os.getD ((j : Int)).toNat o0).t (os.getD ((j : Int)).toNat o0).ps pv hk9 hi9 hb9 ht9 _ _ _ hps9 zin0  (by first | assumption | exact Dk.ok_step (by assumption) | exact Dk.rst_ok (by assumption) _ _) (S := S) (v := vv4)))) ?_
   clear hF hS; rintro _ _ _ a w ⟨_, _, rfl, rfl, ⟨rfl, rfl, rfl⟩⟩ hF hS
   replace hS : St _ [] [_, _, _, _, _, _] _ := hS
   refine wpl_sq hF hS (sq rfl (q_move rfl) <|
     sq rfl (q_extract rfl rfl) <|
     sq rfl (q_extract rfl rfl) <|
     sq rfl (q_assign rfl) <|
     sq rfl (q_assign rfl) <|
     sq_end) ?_
   clear hF hS; intro a w hF hS
   refine wpList_nil ?_
   refine hK13 _ _ ?_
   clear hK13
   refine wp_seq_k ?_; intro K14 hK14
   refine regl ?_
   refine wpl_sq hF hS (sq rfl (q_move rfl) <|
     sq rfl (q_move rfl) <|
     sq rfl (q_nf (q_nes rfl rfl) (by simp)) <|
     sq rfl (q_move rfl) <|
     sq_go 67 rfl rfl rfl (q_move rfl) <|
     sq_go 67 rfl rfl rfl (q_move rfl) <|
     sq_go 67 rfl rfl rfl (q_nf (q_nei rfl rfl) (by simp)) <|
     sq rfl (q_pick_f rfl rfl) <|
     sq rfl (q_move rfl) <|
     sq_go 72 rfl rfl rfl (q_move rfl) <|
     sq_go 72 rfl rfl rfl (q_move rfl) <|
     sq_end) ?_
   clear hF hS; intro a w hF hS
   replace hS := hS.perm (.cons _ (.swap _ _ _))
   replace hS := hS.perm (.swap _ _ _)
   replace hS := hS.perm (.cons _ (.cons _ (.swap _ _ _)))
   replace hS := hS.perm (.cons _ (.swap _ _ _))
   replace hS := hS.perm (.cons _ (.cons _ (.cons _ (.swap _ _ _))))
   replace hS := hS.perm (.cons _ (.cons _ (.swap _ _ _)))
   replace hS := hS.perm (.cons _ (.cons _ (.cons _ (.cons _ (.swap _ _ _)))))
   replace hS := hS.perm (.cons _ (.cons _ (.cons _ (.swap _ _ _))))
   replace hS : St _ [] [_, _, _, _, _, _] _ := hS
   refine wpl_efg hF hS (wanted_go 72 rfl rfl) rfl (ef_callx fn13 rfl (List.Perm.refl _) (by exact (same_ct _ _ _ _  hD21 (v := vv4)))) ?_
   clear hF hS; rintro _ _ _ a w ⟨_, _, rfl, rfl, ⟨rfl, rfl, qa24, qb25, qc26, qd27, rfl, hD28⟩⟩ hF hS
   replace hS : St _ [] [_, _, _, _, _, _] _ := hS
   refine wpl_sq hF hS (sq_go 72 rfl rfl rfl (q_not rfl) <|
     sq rfl (q_pick_f rfl rfl) <|
     sq_end) ?_
   clear hF hS; intro a w hF hS
   refine wpList_nil ?_
   refine hK14 _ _ ?_
   clear hK14
   refine wp_if hF rfl (fun h => absurd h (by simp)) (fun _ => ?_)
   refine wp_skip ?_
   refine hK11 _ _ ?_
   clear hK11
   refine reg hF hS (sq rfl (q_move rfl) <|
     sq rfl (q_addi rfl rfl (by omega)) <|
     sq rfl (q_assign rfl) <|
     sq_end) ?_
   clear hF hS; intro a w hF hS
   refine ⟨((Dk.act S ⟨(os.getD ((j : Int)).toNat o0).k, (os.getD ((j : Int)).toNat o0).i, (os.getD ((j : Int)).toNat o0).b, (os.getD ((j : Int)).toNat o0).t, (os.getD ((j : Int)).toNat o0).ps⟩).1, qa24, qb25, qc26, qd27, j + 1), ?_, ?_, hF.sub ⟨rfl, rfl, rfl, rfl, rfl, trivial⟩, ?_⟩
   ·(try dsimp only); omega
   ·exact ⟨by omega, hD28⟩
   ·exact hS
  ·refine wp_exit ?_
   refine hK7 _ _ ?_
   clear hK7
   refine wp_seq_k ?_; intro K15 hK15
   refine reg hF hS (sq rfl (q_move rfl) <|
     sq rfl (q_assign rfl) <|
     sq_end) ?_
   clear hF hS; intro a w hF hS
   refine hK15 _ _ ?_
   clear hK15
   refine wp_ret ?_
   exact fn_ret (rs := [.tmp 4]) rfl hF hS (vs := [_]) ⟨rfl, trivial⟩ zQ zQ (rfl)

set_option maxRecDepth 4000 in
set_option maxHeartbeats 2000000 in
theorem dlaw1x_ct (n : Int) (hn : ¬ (1 ≤ n ∧ n ≤ 64)) (v : Value) (os : List Dk.Op) (w : World) (hb1 : Sl Go.Fw.encO (ph w) v os) : Ct Try.prog 3 [vi n, v] w (fun r _ _ => r = .bool true) := by
 refine fn_enter Try.func3 rfl Try.ntmps3 (Nat.le_of_ble_eq_true rfl) fun a hF hS => ?_
 have hol := hb1.1
 refine wp_seq_k ?_; intro K1 hK1
 refine reg hF hS (sq rfl (q_assign rfl) <|
   sq_end) ?_
 clear hF hS; intro a w hF hS
 refine hK1 _ _ ?_
 clear hK1
 refine wp_seq_k ?_; intro K2 hK2
 refine reg hF hS (sq rfl (q_call fn9 rfl (fun w hS => sanity_ct w ) (fun _ _ _ h => h)) <|
   sq rfl (q_assign rfl) <|
   sq_end) ?_
 clear hF hS; intro a w hF hS
 refine hK2 _ _ ?_
 clear hK2
 refine wp_seq_k ?_; intro K3 hK3
 refine reg hF hS (sq rfl (q_move rfl) <|
   sq rfl (q_call fn10 rfl (fun w hS => startx_ct _ (by omega) w ) (fun _ _ _ h => h)) <|
   sq rfl (q_move rfl) <|
   sq rfl (q_extract rfl rfl) <|
   sq rfl (q_extract rfl rfl) <|
   sq rfl (q_extract rfl rfl) <|
   sq rfl (q_assign rfl) <|
   sq rfl (q_assign rfl) <|
   sq rfl (q_assign rfl) <|
   sq_end) ?_
 clear hF hS; intro a w hF hS
 refine hK3 _ _ ?_
 clear hK3
 refine wp_seq_k ?_; intro K4 hK4
 refine wp_seq_k ?_; intro K5 hK5
 refine reg hF hS (sq rfl (q_move rfl) <|
   sq rfl (q_not rfl) <|
   sq rfl (q_move rfl) <|
   sq_skip 23 rfl rfl rfl rfl <|
   sq_skip 23 rfl rfl rfl rfl <|
   sq_skip 23 rfl rfl rfl rfl <|
   sq rfl (q_pick_t rfl rfl) <|
   sq_end) ?_
 clear hF hS; intro a w hF hS
 refine hK5 _ _ ?_
 clear hK5
 refine wp_if hF rfl (fun _ => ?_) (fun h => absurd h (by simp))
 refine wp_seq_k ?_; intro K6 hK6
 rcases Decidable.em (n < 1) with hB | hB
 ·skip
  refine reg hF hS (sq rfl (q_move rfl) <|
    sq rfl (q_move rfl) <|
    sq_go 29 rfl rfl rfl (q_move rfl) <|
    sq_go 29 rfl rfl rfl (q_move rfl) <|
    sq_go 31 rfl rfl rfl (q_move rfl) <|
    sq_go 31 rfl rfl rfl (q_dt (q_lti rfl rfl) (by simpa using hB)) <|
    sq_go 29 rfl rfl rfl (q_pick_f rfl rfl) <|
    sq_go 29 rfl rfl rfl (q_move rfl) <|
    sq_skip 35 rfl rfl rfl rfl <|
    sq_skip 35 rfl rfl rfl rfl <|
    sq_go 29 rfl rfl rfl (q_pick_t rfl rfl) <|
    sq rfl (q_pick_t rfl rfl) <|
    sq rfl (q_assign rfl) <|
    sq_end) ?_
  clear hF hS; intro a w hF hS
  refine hK6 _ _ ?_
  clear hK6
  refine wp_ret ?_
  exact fn_ret (rs := [.tmp 4]) rfl hF hS (vs := [_]) ⟨rfl, trivial⟩ zQ zQ (rfl)
 ·skip
  refine reg hF hS (sq rfl (q_move rfl) <|
    sq rfl (q_move rfl) <|
    sq_go 29 rfl rfl rfl (q_move rfl) <|
    sq_go 29 rfl rfl rfl (q_move rfl) <|
    sq_go 31 rfl rfl rfl (q_move rfl) <|
    sq_go 31 rfl rfl rfl (q_df (q_lti rfl rfl) (by simpa using hB)) <|
    sq_go 29 rfl rfl rfl (q_pick_f rfl rfl) <|
    sq_go 29 rfl rfl rfl (q_move rfl) <|
    sq_go 35 rfl rfl rfl (q_move rfl) <|
    sq_go 35 rfl rfl rfl (q_dt (q_gti rfl rfl) (by omega)) <|
    sq_go 29 rfl rfl rfl (q_pick_f rfl rfl) <|
    sq rfl (q_pick_t rfl rfl) <|
    sq rfl (q_assign rfl) <|
    sq_end) ?_
  clear hF hS; intro a w hF hS
  refine hK6 _ _ ?_
  clear hK6
  refine wp_ret ?_
  exact fn_ret (rs := [.tmp 4]) rfl hF hS (vs := [_]) ⟨rfl, trivial⟩ zQ zQ (rfl)

theorem dlaw1_all (n : Int) (v : Value) (os : List Dk.Op) (w : World) (hb1 : Sl Go.Fw.encO (ph w) v os) : Ct Try.prog 3 [vi n, v] w (fun r _ _ => r = .bool true) := by
 rcases Decidable.em (1 ≤ n ∧ n ≤ 64) with h | h
 ·obtain ⟨m, rfl⟩ : ∃ m : Nat, n = (m : Int) := ⟨n.toNat, by omega⟩
  exact dlaw1_ct m (by omega) v os w hb1
 ·exact dlaw1x_ct n h v os w hb1
end Go.Proofs.Ytbgbfmdnpjpdgaa
