/- A text of a proof over this seat: walks over the program's functions and the plain laws that they need. -/
import Derived.Test.YtbgbfmdnpjpdgaaDd16
import Derived.Test.YtbgbfmdnpjpdgaaDkA
import Derived.Test.YtbgbfmdnpjpdgaaFwB
set_option linter.all false
namespace Go.Proofs.Ytbgbfmdnpjpdgaa
open Go.Fw


set_option maxRecDepth 4000 in
set_option maxHeartbeats 2000000 in
theorem dlaw5_ct (n : Nat) (hn : 1 ≤ n ∧ n ≤ 64) (v : Value) (os : List Dk.Op) (at_ b : Int) (w : World) (hb1 : Sl Go.Fw.encO (ph w) v os) (hat : -9223372036854775808 ≤ at_ ∧ at_ ≤ 9223372036854775807) (hbt : -9223372036854775808 ≤ b ∧ b ≤ 9223372036854775807) : Ct Try.prog 7 [vi (n : Int), v, vi at_, vi b] w (fun r _ _ => r = .bool true) := by
 refine fn_enter Try.func7 rfl Try.ntmps7 (Nat.le_of_ble_eq_true rfl) fun a hF hS => ?_
 have hol := hb1.1
 refine wp_seq_k ?_; intro K1 hK1
 refine reg hF hS (sq rfl (q_assign rfl) <|
   sq_end) ?_
 clear hF hS; intro a w hF hS
 refine hK1 _ _ ?_
 clear hK1
 refine wp_seq_k ?_; intro K2 hK2
 refine reg hF hS (sq rfl (q_call fn9 rfl (fun w hS => sanity_ct w ) (fun _ _ _ h => h)) <|
   sq rfl (q_assign rfl) <|
   sq_end) ?_
 clear hF hS; intro a w hF hS
 refine hK2 _ _ ?_
 clear hK2
 refine wp_seq_k ?_; intro K3 hK3
 refine regl ?_
 refine wpl_sq hF hS (sq rfl (q_move rfl) <|
   sq_end) ?_
 clear hF hS; intro a w hF hS
 refine wpl_ef hF hS rfl (ef_call fn10 rfl (fun w hS => start_ct _ (by omega) w )) ?_
 clear hF hS; rintro _ _ _ a w ⟨_, _, rfl, rfl, ⟨rfl, hh2, bb3, vv4, qa5, qb6, qc7, qd8, rfl, rfl, hD9⟩⟩ hF hS
 replace hS : St _ [] [_, _, _, _, _, _] _ := hS
 refine wpl_sq hF hS (sq rfl (q_move rfl) <|
   sq rfl (q_extract rfl rfl) <|
   sq rfl (q_extract rfl rfl) <|
   sq rfl (q_extract rfl rfl) <|
   sq rfl (q_assign rfl) <|
   sq rfl (q_assign rfl) <|
   sq rfl (q_assign rfl) <|
   sq_end) ?_
 clear hF hS; intro a w hF hS
 refine wpList_nil ?_
 refine hK3 _ _ ?_
 clear hK3
 refine wp_seq_k ?_; intro K4 hK4
 refine wp_seq_k ?_; intro K5 hK5
 refine reg hF hS (sq rfl (q_move rfl) <|
   sq rfl (q_not rfl) <|
   sq rfl (q_move rfl) <|
   sq_go 31 rfl rfl rfl (q_move rfl) <|
   sq_go 31 rfl rfl rfl (q_len_sl ty22 hb1 rfl) <|
   sq_go 31 rfl rfl rfl (q_gti rfl rfl) <|
   sq rfl (q_pick_f rfl rfl) <|
   sq_end) ?_
 clear hF hS; intro a w hF hS
 refine hK5 _ _ ?_
 clear hK5
 refine wp_ifd hF rfl (fun hc1 => ?_) (fun hc1 => ?_)
 ·refine wp_seq_k ?_; intro K6 hK6
  refine reg hF hS (sq rfl (q_move rfl) <|
    sq rfl (q_move rfl) <|
    sq_go 37 rfl rfl rfl (q_move rfl) <|
    sq_go 37 rfl rfl rfl (q_move rfl) <|
    sq_skip 39 rfl rfl rfl rfl <|
    sq_skip 39 rfl rfl rfl rfl <|
    sq_go 37 rfl rfl rfl (q_pick_t rfl rfl) <|
    sq_go 37 rfl rfl rfl (q_move rfl) <|
    sq_skip 43 rfl rfl rfl rfl <|
    sq_skip 43 rfl rfl rfl rfl <|
    sq_go 37 rfl rfl rfl (q_pick_t rfl rfl) <|
    sq rfl (q_pick_t rfl rfl) <|
    sq rfl (q_assign rfl) <|
    sq_end) ?_
  clear hF hS; intro a w hF hS
  refine hK6 _ _ ?_
  clear hK6
  refine wp_ret ?_
  exact fn_ret (rs := [.tmp 8]) rfl hF hS (vs := [_]) ⟨rfl, trivial⟩ zQ zQ (rfl)
 ·refine wp_skip ?_
  refine hK4 _ _ ?_
  clear hK4
  refine wp_seq_k ?_; intro K7 hK7
  refine wp_seq_k ?_; intro K8 hK8
  refine reg hF hS (sq rfl (q_assign rfl) <|
    sq_end) ?_
  clear hF hS; intro a w hF hS
  refine hK8 _ _ ?_
  clear hK8
  refine wp_block ?_
  obtain ⟨hs0, hhs0, hS⟩ : ∃ h, h = _ ∧ St _ _ h _ := ⟨_, rfl, hS⟩
  refine wp_loopx (γ := Dk.Dsk × Res × Res × Res × Res × Nat) ((Dk.new n), qa5, qb6, qc7, qd8, 0) (fun (gg : Dk.Dsk × Res × Res × Res × Res × Nat) => match gg with | (S, q1, q2, q3, q4, j) => [(13, vi (j : Int))]) [(0, _), (1, _), (2, _), (3, _), (9, _), (10, _)] (fun (gg : Dk.Dsk × Res × Res × Res × Res × Nat) => match gg with | (S, q1, q2, q3, q4, j) => ((((hs0.set 0 (q1)).set 1 (q2)).set 2 (q3)).set 3 (q4))) (fun (gg : Dk.Dsk × Res × Res × Res × Res × Nat) => match gg with | (S, q1, q2, q3, q4, j) => j ≤ os.length ∧ DD hh2 S q1 q2 q3 q4 ∧ S.s.length = n) (fun (gg : Dk.Dsk × Res × Res × Res × Res × Nat) => match gg with | (S, q1, q2, q3, q4, j) => os.length - j) (hF.sub ⟨rfl, rfl, rfl, rfl, rfl, rfl, rfl, trivial⟩) (by subst hhs0; exact hS) (by exact ⟨Nat.zero_le _, hD9, Dk.new_len n⟩) ?_
  clear hF hS; rintro ⟨S, q1, q2, q3, q4, j⟩ a w hfact hF hS
  subst hhs0; (try dsimp only at hfact); (try dsimp only at hF); (try dsimp only at hS)
  obtain ⟨hj0, hDq, hSn⟩ := hfact
  have hOS := Dk.DOk.ok hDq
  replace hS : St _ [] [_, _, _, _, _, _] _ := hS
  refine wp_seq_k ?_; intro K9 hK9
  refine wp_seq_k ?_; intro K10 hK10
  refine reg hF hS (sq rfl (q_move rfl) <|
    sq rfl (q_move rfl) <|
    sq rfl (q_len_sl ty22 hb1 rfl) <|
    sq rfl (q_lti rfl rfl) <|
    sq_end) ?_
  clear hF hS; intro a w hF hS
  refine hK10 _ _ ?_
  clear hK10
  refine wp_ifd hF rfl (fun hc2 => ?_) (fun hc2 => ?_)
  ·obtain ⟨pv, hqc, hk9, hi9, hb9, ht9, hps9⟩ := o_at hb1 (k := ((j : Int)).toNat) (by omega)
   refine wp_skip ?_
   refine hK9 _ _ ?_
   clear hK9
   refine wp_seq_k ?_; intro K11 hK11
   refine wp_block ?_
   refine regl ?_
   refine wpl_sq hF hS (sq rfl (q_move rfl) <|
     sq rfl (q_move rfl) <|
     sq rfl (q_move rfl) <|
     sq rfl (q_idx_sl ty22 ty33 hb1 rfl rfl (by omega)) <|
     sq rfl (q_ld_op ty33 hb1 zin0 hqc rfl rfl (by omega)) <|
     sq_end) ?_
   clear hF hS; intro a w hF hS
   refine wpl_ef hF hS rfl (ef_callx fn11 rfl (List.Perm.refl _) (by exact (do_ct _ _ (os.getD ((j : Int)).toNat o0).k (os.getD ((j : Int)).toNat o0).i (os.getD ((j : Int)).toNat o0).b (os.getD ((j : Int)).toNat o0).t (os.getD ((j : Int)).toNat o0).ps pv hk9 hi9 hb9 ht9 _ _ _ hps9 zin0  hDq))) ?_
   clear hF hS; rintro _ _ _ a w ⟨_, _, rfl, rfl, ⟨rfl, rfl, qa17, qb18, qc19, qd20, rfl, hD21⟩⟩ hF hS
   replace hS : St _ [] [_, _, _, _, _, _] _ := hS
   refine wpList_nil ?_
   refine hK11 _ _ ?_
   clear hK11
   refine reg hF hS (sq rfl (q_move rfl) <|
     sq rfl (q_addi rfl rfl (by omega)) <|
     sq rfl (q_assign rfl) <|
     sq_end) ?_
   clear hF hS; intro a w hF hS
   refine ⟨((Dk.act S ⟨(os.getD ((j : Int)).toNat o0).k, (os.getD ((j : Int)).toNat o0).i, (os.getD ((j : Int)).toNat o0).b, (os.getD ((j : Int)).toNat o0).t, (os.getD ((j : Int)).toNat o0).ps⟩).1, qa17, qb18, qc19, qd20, j + 1), ?_, ?_, hF.sub ⟨rfl, rfl, rfl, rfl, rfl, rfl, rfl, trivial⟩, ?_⟩
   ·(try dsimp only); omega
   ·exact ⟨by omega, hD21, by rw [Dk.act_len]; exact hSn⟩
   ·exact hS
  ·refine wp_exit ?_
   refine hK7 _ _ ?_
   clear hK7
   refine wp_seq_k ?_; intro K12 hK12
   refine regl ?_
   refine wpl_sq hF hS (sq rfl (q_move rfl) <|
     sq_end) ?_
   clear hF hS; intro a w hF hS
   refine wpl_ef hF hS rfl (ef_callx fn15 rfl (List.Perm.refl _) (by exact (dimage_ct _ _ _ _  hDq))) ?_
   clear hF hS; rintro v22 _ _ a w ⟨_, _, rfl, rfl, ⟨rfl, qa23, qb24, qc25, qd26, rfl, hD27⟩⟩ hF hS
   replace hS : St _ [] [_, _, _, _, _, _, _] _ := hS
   refine wpl_sq hF hS (sq rfl (q_assign rfl) <|
     sq_end) ?_
   clear hF hS; intro a w hF hS
   refine wpList_nil ?_
   have hil := Dk.image_len S
   refine hK12 _ _ ?_
   clear hK12
   refine wp_seq_k ?_; intro K13 hK13
   rcases Decidable.em ((0 ≤ at_ ∧ at_ < n) ∧ 0 ≤ b ∧ b < 512) with hV | hV
   ·have he10 : (Dk.rot S at_ b).2 = 0 := by rw [Dk.rot_ok ⟨by omega, by omega⟩ ⟨by omega, by omega⟩]
    have hrr : Dk.rot (Dk.rot S at_ b).1 at_ b = (S, 0) := Dk.rot_rot hOS ⟨by omega, by omega⟩ ⟨by omega, by omega⟩
    refine regl ?_
    refine wpl_sq hF hS (sq rfl (q_move rfl) <|
      sq rfl (q_move rfl) <|
      sq rfl (q_move rfl) <|
      sq_end) ?_
    clear hF hS; intro a w hF hS
    replace hS := hS.perm (.swap _ _ _)
    replace hS := hS.perm (.cons _ (.swap _ _ _))
    replace hS := hS.perm (.cons _ (.cons _ (.swap _ _ _)))
    replace hS := hS.perm (.cons _ (.cons _ (.cons _ (.swap _ _ _))))
    replace hS : St _ [] [_, _, _, _, _, _, _] _ := hS
    refine wpl_ef hF hS rfl (ef_callx fn19 rfl (List.Perm.refl _) (by exact (drot_ct _ _ _ _ (by omega) (by omega) _ _  hD27))) ?_
    clear hF hS; rintro _ _ _ a w ⟨_, _, rfl, rfl, ⟨rfl, rfl, qa30, qb31, qc32, qd33, rfl, hD34⟩⟩ hF hS
    replace hS : St _ [] [_, _, _, _, _, _, _] _ := hS
    refine wpl_sq hF hS (sq rfl (q_assign rfl) <|
      sq_end) ?_
    clear hF hS; intro a w hF hS
    refine wpList_nil ?_
    rw [he10] at hF
    refine hK13 _ _ ?_
    clear hK13
    refine wp_seq_k ?_; intro K14 hK14
    refine regl ?_
    refine wpl_sq hF hS (sq rfl (q_move rfl) <|
      sq_end) ?_
    clear hF hS; intro a w hF hS
    refine wpl_ef hF hS rfl (ef_callx fn15 rfl (List.Perm.refl _) (by exact (dimage_ct _ _ _ _  hD34))) ?_
    clear hF hS; rintro v35 _ _ a w ⟨_, _, rfl, rfl, ⟨rfl, qa36, qb37, qc38, qd39, rfl, hD40⟩⟩ hF hS
    replace hS : St _ [] [_, _, _, _, _, _, _, _] _ := hS
    refine wpl_sq hF hS (sq rfl (q_assign rfl) <|
      sq_end) ?_
    clear hF hS; intro a w hF hS
    refine wpList_nil ?_
    have hil2 := Dk.image_len (Dk.rot S at_ b).1
    have hrl := Dk.rot_len S at_ b
    refine hK14 _ _ ?_
    clear hK14
    refine wp_seq_k ?_; intro K15 hK15
    refine regl ?_
    refine wpl_sq hF hS (sq rfl (q_move rfl) <|
      sq rfl (q_move rfl) <|
      sq rfl (q_move rfl) <|
      sq_end) ?_
    clear hF hS; intro a w hF hS
    replace hS := hS.perm (.swap _ _ _)
    replace hS := hS.perm (.cons _ (.swap _ _ _))
    replace hS := hS.perm (.cons _ (.cons _ (.swap _ _ _)))
    replace hS := hS.perm (.cons _ (.cons _ (.cons _ (.swap _ _ _))))
    replace hS : St _ [] [_, _, _, _, _, _, _, _] _ := hS
    refine wpl_ef hF hS rfl (ef_callx fn19 rfl (List.Perm.refl _) (by exact (drot_ct _ _ _ _ (by omega) (by omega) _ _  hD40))) ?_
    clear hF hS; rintro _ _ _ a w ⟨_, _, rfl, rfl, ⟨rfl, rfl, qa43, qb44, qc45, qd46, rfl, hD47⟩⟩ hF hS
    replace hS : St _ [] [_, _, _, _, _, _, _, _] _ := hS
    refine wpl_sq hF hS (sq rfl (q_assign rfl) <|
      sq_end) ?_
    clear hF hS; intro a w hF hS
    refine wpList_nil ?_
    rw [hrr] at hF
    dsimp only at hF
    have hDs : DD hh2 S qa43 qb44 qc45 qd46 := by
     have h9 := hD47
     rw [hrr] at h9
     exact h9
    refine hK15 _ _ ?_
    clear hK15
    refine wp_seq_k ?_; intro K16 hK16
    refine regl ?_
    refine wpl_sq hF hS (sq rfl (q_move rfl) <|
      sq rfl (q_move rfl) <|
      sq_end) ?_
    clear hF hS; intro a w hF hS
    refine wpl_ef hF hS rfl (ef_callx fn15 rfl (List.Perm.refl _) (by exact (dimage_ct _ _ _ _  hDs))) ?_
    clear hF hS; rintro v48 _ _ a w ⟨_, _, rfl, rfl, ⟨rfl, qa49, qb50, qc51, qd52, rfl, hD53⟩⟩ hF hS
    replace hS : St _ [] [_, _, _, _, _, _, _, _, _] _ := hS
    refine wpl_sq hF hS (sq rfl (q_call fn21 rfl (fun w hS => sametexts_t _ _ _ w (own_slV (f := vs) (xs := (Dk.image S)) (hS.own _ (List.mem_of_getElem? (i := 6) rfl)).1 (Dk.image_64 hOS) rfl (by first | decide | omega)) (own_slV (f := vs) (xs := (Dk.image S)) (hS.own _ (List.mem_of_getElem? (i := 0) rfl)).1 (Dk.image_64 hOS) rfl (by first | decide | omega))) (fun _ _ _ h => h)) <|
      sq rfl (q_assign rfl) <|
      sq_end) ?_
    clear hF hS; intro a w hF hS
    refine wpList_nil ?_
    refine hK16 _ _ ?_
    clear hK16
    refine wp_seq_k ?_; intro K17 hK17
    refine wp_seq_k ?_; intro K18 hK18
    refine reg hF hS (sq rfl (q_move rfl) <|
      sq rfl (q_nf (q_nei rfl rfl) (by decide)) <|
      sq_end) ?_
    clear hF hS; intro a w hF hS
    refine hK18 _ _ ?_
    clear hK18
    refine wp_if hF rfl (fun h => absurd h (by simp)) (fun _ => ?_)
    refine wp_skip ?_
    refine hK17 _ _ ?_
    clear hK17
    refine wp_seq_k ?_; intro K19 hK19
    refine wp_seq_k ?_; intro K20 hK20
    refine reg hF hS (sq rfl (q_move rfl) <|
      sq rfl (q_len_row ty39 6 rfl rfl) <|
      sq rfl (q_move rfl) <|
      sq rfl (q_nf (q_nei rfl rfl) (by omega)) <|
      sq rfl (q_move rfl) <|
      sq_go 112 rfl rfl rfl (q_move rfl) <|
      sq_go 112 rfl rfl rfl (q_len_row ty39 5 rfl rfl) <|
      sq_go 112 rfl rfl rfl (q_move rfl) <|
      sq_go 112 rfl rfl rfl (q_nf (q_nei rfl rfl) (by omega)) <|
      sq rfl (q_pick_f rfl rfl) <|
      sq rfl (q_move rfl) <|
      sq_go 118 rfl rfl rfl (q_move rfl) <|
      sq_go 118 rfl rfl rfl (q_nf (q_nei rfl rfl) (by decide)) <|
      sq rfl (q_pick_f rfl rfl) <|
      sq rfl (q_move rfl) <|
      sq_go 122 rfl rfl rfl (q_move rfl) <|
      sq_go 122 rfl rfl rfl (q_not rfl) <|
      sq rfl (q_pick_f rfl rfl) <|
      sq rfl (q_move rfl) <|
      sq_go 126 rfl rfl rfl (q_move rfl) <|
      sq_go 126 rfl rfl rfl (q_df (q_lti rfl rfl) (by omega)) <|
      sq rfl (q_pick_f rfl rfl) <|
      sq rfl (q_move rfl) <|
      sq_go 130 rfl rfl rfl (q_move rfl) <|
      sq_go 130 rfl rfl rfl (q_move rfl) <|
      sq_go 130 rfl rfl rfl (q_df (q_gei rfl rfl) (by omega)) <|
      sq rfl (q_pick_f rfl rfl) <|
      sq rfl (q_move rfl) <|
      sq_go 135 rfl rfl rfl (q_move rfl) <|
      sq_go 135 rfl rfl rfl (q_df (q_lti rfl rfl) (by omega)) <|
      sq rfl (q_pick_f rfl rfl) <|
      sq rfl (q_move rfl) <|
      sq_go 139 rfl rfl rfl (q_move rfl) <|
      sq_go 139 rfl rfl rfl (q_df (q_gti rfl rfl) (by omega)) <|
      sq rfl (q_pick_f rfl rfl) <|
      sq_end) ?_
    clear hF hS; intro a w hF hS
    refine hK20 _ _ ?_
    clear hK20
    refine wp_if hF rfl (fun h => absurd h (by simp)) (fun _ => ?_)
    refine wp_skip ?_
    refine hK19 _ _ ?_
    clear hK19
    refine wp_seq_k ?_; intro K21 hK21
    refine wp_seq_k ?_; intro K22 hK22
    refine reg hF hS (sq rfl (q_assign rfl) <|
      sq_end) ?_
    clear hF hS; intro a w hF hS
    refine hK22 _ _ ?_
    clear hK22
    refine wp_block ?_
    obtain ⟨hs0, hhs0, hS⟩ : ∃ h, h = _ ∧ St _ _ h _ := ⟨_, rfl, hS⟩
    refine wp_loopx (γ := Nat) (0) (fun (i : Nat) => [(19, vi (i : Int))]) [(0, _), (2, _), (3, _), (9, _), (14, _), (16, _)] (fun (i : Nat) => hs0) (fun (i : Nat) => i ≤ n) (fun (i : Nat) => n - i) (hF.sub ⟨rfl, rfl, rfl, rfl, rfl, rfl, rfl, trivial⟩) (by subst hhs0; exact hS) (by exact Nat.zero_le _) ?_
    clear hF hS; rintro i a w hfact hF hS
    subst hhs0; (try dsimp only at hfact); (try dsimp only at hF); (try dsimp only at hS)
    have hi0 := hfact
    replace hS : St _ [] [_, _, _, _, _, _, _, _, _] _ := hS
    refine wp_seq_k ?_; intro K23 hK23
    refine wp_seq_k ?_; intro K24 hK24
    refine reg hF hS (sq rfl (q_move rfl) <|
      sq rfl (q_move rfl) <|
      sq rfl (q_lti rfl rfl) <|
      sq_end) ?_
    clear hF hS; intro a w hF hS
    refine hK24 _ _ ?_
    clear hK24
    refine wp_ifd hF rfl (fun hc5 => ?_) (fun hc5 => ?_)
    ·refine wp_skip ?_
     refine hK23 _ _ ?_
     clear hK23
     refine wp_seq_k ?_; intro K25 hK25
     refine wp_block ?_
     refine wp_seq_k ?_; intro K26 hK26
     refine regd mixed kQ hF hS (sq rfl (q_move rfl) <|
       sq rfl (q_move rfl) <|
       sq rfl (q_idx_row ty39 ty9 6 rfl rfl rfl (by omega)) <|
       sq rfl (q_ld_rowM ty9 6 default rfl rfl bQ rfl) <|
       sq rfl (q_move rfl) <|
       sq rfl (q_move rfl) <|
       sq rfl (q_idx_row ty39 ty9 5 rfl rfl rfl (by omega)) <|
       sq rfl (q_ld_rowM ty9 5 default rfl rfl bQ rfl) <|
       sq rfl (q_eqs rfl rfl) <|
       sq rfl (q_move rfl) <|
       sq rfl (q_move rfl) <|
       sq rfl (q_eqi rfl rfl) <|
       sq rfl (q_bf (q_eqt ty4 rfl rfl) (by have h9 := Dk.rot_dif hOS (i := at_) (b := b) ⟨by omega, by omega⟩ ⟨by omega, by omega⟩ (k := ((i : Int)).toNat) (by omega); rw [Int.toNat_natCast] at h9 ⊢; exact h9)) <|
       sq rfl (q_move rfl) <|
       sq_go 161 rfl rfl rfl (q_move rfl) <|
       sq_go 161 rfl rfl rfl (q_move rfl) <|
       sq_go 161 rfl rfl rfl (q_idx_row ty39 ty9 5 rfl rfl rfl (by omega)) <|
       sq_go 161 rfl rfl rfl (q_ld_rowM ty9 5 default rfl rfl bQ rfl) <|
       sq_go 161 rfl rfl rfl (q_len_s ty9 rfl) <|
       sq_go 161 rfl rfl rfl (q_nf (q_nei rfl rfl) (by have := Dk.rot_64 hOS at_ b (k := ((i : Int)).toNat) (by omega); rw [show ((Dk.image (Dk.rot S at_ b).1).getD ((i : Int)).toNat default).length = 64 from this]; rfl)) <|
       sq rfl (q_pick_f rfl rfl) <|
       sq_end) ?_
     clear hF hS; intro a w hF hS
     refine hK26 _ _ ?_
     clear hK26
     refine wp_if hF rfl (fun h => absurd h (by simp)) (fun _ => ?_)
     refine wp_skip ?_
     refine hK25 _ _ ?_
     clear hK25
     refine reg hF hS (sq rfl (q_move rfl) <|
       sq rfl (q_addi rfl rfl (by omega)) <|
       sq rfl (q_assign rfl) <|
       sq_end) ?_
     clear hF hS; intro a w hF hS
     refine ⟨(i + 1), ?_, ?_, hF.sub ⟨rfl, rfl, rfl, rfl, rfl, rfl, rfl, trivial⟩, ?_⟩
     ·(try dsimp only); omega
     ·omega
     ·exact hS
    ·refine wp_exit ?_
     refine hK21 _ _ ?_
     clear hK21
     refine wp_seq_k ?_; intro K27 hK27
     refine wp_seq_k ?_; intro K28 hK28
     refine reg hF hS (sq rfl (q_assign rfl) <|
       sq_end) ?_
     clear hF hS; intro a w hF hS
     refine hK28 _ _ ?_
     clear hK28
     refine wp_block ?_
     obtain ⟨hs0, hhs0, hS⟩ : ∃ h, h = _ ∧ St _ _ h _ := ⟨_, rfl, hS⟩
     refine wp_loopx (γ := Nat) (0) (fun (k : Nat) => [(20, vi (k : Int))]) [(2, _), (3, _), (9, _), (14, _), (16, _)] (fun (k : Nat) => hs0) (fun (k : Nat) => k ≤ 64) (fun (k : Nat) => 64 - k) (hF.sub ⟨rfl, rfl, rfl, rfl, rfl, rfl, trivial⟩) (by subst hhs0; exact hS) (by exact Nat.zero_le _) ?_
     clear hF hS; rintro k a w hfact hF hS
     subst hhs0; (try dsimp only at hfact); (try dsimp only at hF); (try dsimp only at hS)
     have hk0 := hfact
     replace hS : St _ [] [_, _, _, _, _, _, _, _, _] _ := hS
     have hi64 : ((Dk.image S).getD at_.toNat default).length = 64 := Dk.im_64 hOS (by omega)
     have hr64 : ((Dk.image (Dk.rot S at_ b).1).getD at_.toNat default).length = 64 := Dk.rot_64 hOS at_ b (by omega)
     refine wp_seq_k ?_; intro K29 hK29
     refine wp_seq_k ?_; intro K30 hK30
     refine reg hF hS (sq rfl (q_move rfl) <|
       sq rfl (q_lti rfl rfl) <|
       sq_end) ?_
     clear hF hS; intro a w hF hS
     refine hK30 _ _ ?_
     clear hK30
     refine wp_ifd hF rfl (fun hc7 => ?_) (fun hc7 => ?_)
     ·refine wp_skip ?_
      refine hK29 _ _ ?_
      clear hK29
      refine wp_seq_k ?_; intro K31 hK31
      refine wp_block ?_
      refine wp_seq_k ?_; intro K32 hK32
      refine regd mixed kQ hF hS (sq rfl (q_move rfl) <|
        sq rfl (q_move rfl) <|
        sq rfl (q_idx_row ty39 ty9 6 rfl rfl rfl (by omega)) <|
        sq rfl (q_ld_rowM ty9 6 default rfl rfl bQ rfl) <|
        sq rfl (q_move rfl) <|
        sq rfl (q_idx_s ty9 rfl rfl (by omega)) <|
        sq rfl (q_cv_bi ty5 ty3 rfl) <|
        sq rfl (q_move rfl) <|
        sq rfl (q_move rfl) <|
        sq rfl (q_idx_row ty39 ty9 5 rfl rfl rfl (by omega)) <|
        sq rfl (q_ld_rowM ty9 5 default rfl rfl bQ rfl) <|
        sq rfl (q_move rfl) <|
        sq rfl (q_idx_s ty9 rfl rfl (by omega)) <|
        sq rfl (q_cv_bi ty5 ty3 rfl) <|
        sq rfl (q_xori rfl rfl) <|
        sq rfl (q_assign rfl) <|
        sq_end) ?_
      clear hF hS; intro a w hF hS
      refine hK32 _ _ ?_
      clear hK32
      refine wp_seq_k ?_; intro K33 hK33
      rcases Decidable.em ((k : Int) = b / 8) with hB | hB
      ·skip
       refine reg hF hS (sq rfl (q_move rfl) <|
         sq rfl (q_move rfl) <|
         sq rfl (q_quoi rfl rfl (by omega)) <|
         sq rfl (q_dt (q_eqi rfl rfl) (by omega)) <|
         sq rfl (q_move rfl) <|
         sq_go 192 rfl rfl rfl (q_move rfl) <|
         sq_go 192 rfl rfl rfl (q_move rfl) <|
         sq_go 192 rfl rfl rfl (q_remi rfl rfl (by omega)) <|
         sq_go 192 rfl rfl rfl (q_shli rfl rfl (by omega) (Dk.shl_b b)) <|
         sq_go 192 rfl rfl rfl (q_nf (q_nei rfl rfl) (by exact Dk.rot_x1 hOS (i := at_) (b := b) ⟨by omega, by omega⟩ ⟨by omega, by omega⟩ (k := ((k : Int)).toNat) (by omega))) <|
         sq rfl (q_pick_t rfl rfl) <|
         sq rfl (q_move rfl) <|
         sq_go 199 rfl rfl rfl (q_move rfl) <|
         sq_go 199 rfl rfl rfl (q_move rfl) <|
         sq_go 199 rfl rfl rfl (q_quoi rfl rfl (by omega)) <|
         sq_go 199 rfl rfl rfl (q_nf (q_nei rfl rfl) (by omega)) <|
         sq_go 199 rfl rfl rfl (q_move rfl) <|
         sq_skip 204 rfl rfl rfl rfl <|
         sq_skip 204 rfl rfl rfl rfl <|
         sq_go 199 rfl rfl rfl (q_pick_f rfl rfl) <|
         sq rfl (q_pick_f rfl rfl) <|
         sq_end) ?_
       clear hF hS; intro a w hF hS
       refine hK33 _ _ ?_
       clear hK33
       refine wp_if hF rfl (fun h => absurd h (by simp)) (fun _ => ?_)
       refine wp_skip ?_
       refine hK31 _ _ ?_
       clear hK31
       refine reg hF hS (sq rfl (q_move rfl) <|
         sq rfl (q_addi rfl rfl (by omega)) <|
         sq rfl (q_assign rfl) <|
         sq_end) ?_
       clear hF hS; intro a w hF hS
       refine ⟨(k + 1), ?_, ?_, hF.sub ⟨rfl, rfl, rfl, rfl, rfl, rfl, trivial⟩, ?_⟩
       ·(try dsimp only); omega
       ·omega
       ·exact hS
      ·skip
       refine reg hF hS (sq rfl (q_move rfl) <|
         sq rfl (q_move rfl) <|
         sq rfl (q_quoi rfl rfl (by omega)) <|
         sq rfl (q_df (q_eqi rfl rfl) (by omega)) <|
         sq rfl (q_move rfl) <|
         sq_skip 192 rfl rfl rfl rfl <|
         sq_skip 192 rfl rfl rfl rfl <|
         sq_skip 192 rfl rfl rfl rfl <|
         sq_skip 192 rfl rfl rfl rfl <|
         sq_skip 192 rfl rfl rfl rfl <|
         sq rfl (q_pick_f rfl rfl) <|
         sq rfl (q_move rfl) <|
         sq_go 199 rfl rfl rfl (q_move rfl) <|
         sq_go 199 rfl rfl rfl (q_move rfl) <|
         sq_go 199 rfl rfl rfl (q_quoi rfl rfl (by omega)) <|
         sq_go 199 rfl rfl rfl (q_nt (q_nei rfl rfl) (by omega)) <|
         sq_go 199 rfl rfl rfl (q_move rfl) <|
         sq_go 204 rfl rfl rfl (q_move rfl) <|
         sq_go 204 rfl rfl rfl (q_nf (q_nei rfl rfl) (by exact Dk.rot_x2 hOS (i := at_) (b := b) ⟨by omega, by omega⟩ ⟨by omega, by omega⟩ (k := ((k : Int)).toNat) (by omega))) <|
         sq_go 199 rfl rfl rfl (q_pick_t rfl rfl) <|
         sq rfl (q_pick_f rfl rfl) <|
         sq_end) ?_
       clear hF hS; intro a w hF hS
       refine hK33 _ _ ?_
       clear hK33
       refine wp_if hF rfl (fun h => absurd h (by simp)) (fun _ => ?_)
       refine wp_skip ?_
       refine hK31 _ _ ?_
       clear hK31
       refine reg hF hS (sq rfl (q_move rfl) <|
         sq rfl (q_addi rfl rfl (by omega)) <|
         sq rfl (q_assign rfl) <|
         sq_end) ?_
       clear hF hS; intro a w hF hS
       refine ⟨(k + 1), ?_, ?_, hF.sub ⟨rfl, rfl, rfl, rfl, rfl, rfl, trivial⟩, ?_⟩
       ·(try dsimp only); omega
       ·omega
       ·exact hS
     ·refine wp_exit ?_
      refine hK27 _ _ ?_
      clear hK27
      refine wp_seq_k ?_; intro K34 hK34
      refine reg hF hS (sq rfl (q_move rfl) <|
        sq rfl (q_assign rfl) <|
        sq_end) ?_
      clear hF hS; intro a w hF hS
      refine hK34 _ _ ?_
      clear hK34
      refine wp_ret ?_
      exact fn_ret (rs := [.tmp 8]) rfl hF hS (vs := [_]) ⟨rfl, trivial⟩ zQ zQ (rfl)
   ·have hr10 : Dk.rot S at_ b = (S, 1) := Dk.rot_no (by omega)
    have he10 : (Dk.rot S at_ b).2 = 1 := by rw [hr10]
    have hrr : Dk.rot (Dk.rot S at_ b).1 at_ b = (S, 1) := by rw [hr10]; exact hr10
    refine regl ?_
    refine wpl_sq hF hS (sq rfl (q_move rfl) <|
      sq rfl (q_move rfl) <|
      sq rfl (q_move rfl) <|
      sq_end) ?_
    clear hF hS; intro a w hF hS
    replace hS := hS.perm (.swap _ _ _)
    replace hS := hS.perm (.cons _ (.swap _ _ _))
    replace hS := hS.perm (.cons _ (.cons _ (.swap _ _ _)))
    replace hS := hS.perm (.cons _ (.cons _ (.cons _ (.swap _ _ _))))
    replace hS : St _ [] [_, _, _, _, _, _, _] _ := hS
    refine wpl_ef hF hS rfl (ef_callx fn19 rfl (List.Perm.refl _) (by exact (drot_ct _ _ _ _ (by omega) (by omega) _ _  hD27))) ?_
    clear hF hS; rintro _ _ _ a w ⟨_, _, rfl, rfl, ⟨rfl, rfl, qa56, qb57, qc58, qd59, rfl, hD60⟩⟩ hF hS
    replace hS : St _ [] [_, _, _, _, _, _, _] _ := hS
    refine wpl_sq hF hS (sq rfl (q_assign rfl) <|
      sq_end) ?_
    clear hF hS; intro a w hF hS
    refine wpList_nil ?_
    rw [he10] at hF
    refine hK13 _ _ ?_
    clear hK13
    refine wp_seq_k ?_; intro K35 hK35
    refine regl ?_
    refine wpl_sq hF hS (sq rfl (q_move rfl) <|
      sq_end) ?_
    clear hF hS; intro a w hF hS
    refine wpl_ef hF hS rfl (ef_callx fn15 rfl (List.Perm.refl _) (by exact (dimage_ct _ _ _ _  hD60))) ?_
    clear hF hS; rintro v61 _ _ a w ⟨_, _, rfl, rfl, ⟨rfl, qa62, qb63, qc64, qd65, rfl, hD66⟩⟩ hF hS
    replace hS : St _ [] [_, _, _, _, _, _, _, _] _ := hS
    refine wpl_sq hF hS (sq rfl (q_assign rfl) <|
      sq_end) ?_
    clear hF hS; intro a w hF hS
    refine wpList_nil ?_
    have hil2 := Dk.image_len (Dk.rot S at_ b).1
    have hrl := Dk.rot_len S at_ b
    refine hK35 _ _ ?_
    clear hK35
    refine wp_seq_k ?_; intro K36 hK36
    refine regl ?_
    refine wpl_sq hF hS (sq rfl (q_move rfl) <|
      sq rfl (q_move rfl) <|
      sq rfl (q_move rfl) <|
      sq_end) ?_
    clear hF hS; intro a w hF hS
    replace hS := hS.perm (.swap _ _ _)
    replace hS := hS.perm (.cons _ (.swap _ _ _))
    replace hS := hS.perm (.cons _ (.cons _ (.swap _ _ _)))
    replace hS := hS.perm (.cons _ (.cons _ (.cons _ (.swap _ _ _))))
    replace hS : St _ [] [_, _, _, _, _, _, _, _] _ := hS
    refine wpl_ef hF hS rfl (ef_callx fn19 rfl (List.Perm.refl _) (by exact (drot_ct _ _ _ _ (by omega) (by omega) _ _  hD66))) ?_
    clear hF hS; rintro _ _ _ a w ⟨_, _, rfl, rfl, ⟨rfl, rfl, qa69, qb70, qc71, qd72, rfl, hD73⟩⟩ hF hS
    replace hS : St _ [] [_, _, _, _, _, _, _, _] _ := hS
    refine wpl_sq hF hS (sq rfl (q_assign rfl) <|
      sq_end) ?_
    clear hF hS; intro a w hF hS
    refine wpList_nil ?_
    rw [hrr] at hF
    dsimp only at hF
    have hDs : DD hh2 S qa69 qb70 qc71 qd72 := by
     have h9 := hD73
     rw [hrr] at h9
     exact h9
    refine hK36 _ _ ?_
    clear hK36
    refine wp_seq_k ?_; intro K37 hK37
    refine regl ?_
    refine wpl_sq hF hS (sq rfl (q_move rfl) <|
      sq rfl (q_move rfl) <|
      sq_end) ?_
    clear hF hS; intro a w hF hS
    refine wpl_ef hF hS rfl (ef_callx fn15 rfl (List.Perm.refl _) (by exact (dimage_ct _ _ _ _  hDs))) ?_
    clear hF hS; rintro v74 _ _ a w ⟨_, _, rfl, rfl, ⟨rfl, qa75, qb76, qc77, qd78, rfl, hD79⟩⟩ hF hS
    replace hS : St _ [] [_, _, _, _, _, _, _, _, _] _ := hS
    refine wpl_sq hF hS (sq rfl (q_call fn21 rfl (fun w hS => sametexts_t _ _ _ w (own_slV (f := vs) (xs := (Dk.image S)) (hS.own _ (List.mem_of_getElem? (i := 6) rfl)).1 (Dk.image_64 hOS) rfl (by first | decide | omega)) (own_slV (f := vs) (xs := (Dk.image S)) (hS.own _ (List.mem_of_getElem? (i := 0) rfl)).1 (Dk.image_64 hOS) rfl (by first | decide | omega))) (fun _ _ _ h => h)) <|
      sq rfl (q_assign rfl) <|
      sq_end) ?_
    clear hF hS; intro a w hF hS
    refine wpList_nil ?_
    refine hK37 _ _ ?_
    clear hK37
    refine wp_seq_k ?_; intro K38 hK38
    refine wp_seq_k ?_; intro K39 hK39
    refine reg hF hS (sq rfl (q_move rfl) <|
      sq rfl (q_nt (q_nei rfl rfl) (by decide)) <|
      sq_end) ?_
    clear hF hS; intro a w hF hS
    refine hK39 _ _ ?_
    clear hK39
    refine wp_if hF rfl (fun _ => ?_) (fun h => absurd h (by simp))
    refine wp_seq_k ?_; intro K40 hK40
    rcases (show at_ < 0 ∨ (¬ at_ < 0 ∧ (n : Int) ≤ at_) ∨ (¬ at_ < 0 ∧ ¬ (n : Int) ≤ at_ ∧ b < 0) ∨ (¬ at_ < 0 ∧ ¬ (n : Int) ≤ at_ ∧ ¬ b < 0 ∧ 511 < b) by omega) with hB | hB | hB | hB
    ·skip
     refine reg hF hS (sq rfl (q_move rfl) <|
       sq rfl (q_move rfl) <|
       sq_go 79 rfl rfl rfl (q_move rfl) <|
       sq_go 79 rfl rfl rfl (q_dt (q_eqi rfl rfl) (by decide)) <|
       sq rfl (q_pick_t rfl rfl) <|
       sq rfl (q_move rfl) <|
       sq_go 83 rfl rfl rfl (q_move rfl) <|
       sq_go 83 rfl rfl rfl (q_move rfl) <|
       sq_go 83 rfl rfl rfl (q_dt (q_eqi rfl rfl) (by decide)) <|
       sq rfl (q_pick_t rfl rfl) <|
       sq rfl (q_move rfl) <|
       sq_go 88 rfl rfl rfl (q_move rfl) <|
       sq rfl (q_pick_t rfl rfl) <|
       sq rfl (q_move rfl) <|
       sq_go 91 rfl rfl rfl (q_move rfl) <|
       sq_go 91 rfl rfl rfl (q_dt (q_lti rfl rfl) (by omega)) <|
       sq_go 91 rfl rfl rfl (q_move rfl) <|
       sq_skip 94 rfl rfl rfl rfl <|
       sq_skip 94 rfl rfl rfl rfl <|
       sq_skip 94 rfl rfl rfl rfl <|
       sq_go 91 rfl rfl rfl (q_pick_t rfl rfl) <|
       sq_go 91 rfl rfl rfl (q_move rfl) <|
       sq_skip 99 rfl rfl rfl rfl <|
       sq_skip 99 rfl rfl rfl rfl <|
       sq_go 91 rfl rfl rfl (q_pick_t rfl rfl) <|
       sq_go 91 rfl rfl rfl (q_move rfl) <|
       sq_skip 103 rfl rfl rfl rfl <|
       sq_skip 103 rfl rfl rfl rfl <|
       sq_go 91 rfl rfl rfl (q_pick_t rfl rfl) <|
       sq rfl (q_pick_t rfl rfl) <|
       sq rfl (q_assign rfl) <|
       sq_end) ?_
     clear hF hS; intro a w hF hS
     refine hK40 _ _ ?_
     clear hK40
     refine wp_ret ?_
     exact fn_ret (rs := [.tmp 8]) rfl hF hS (vs := [_]) ⟨rfl, trivial⟩ zQ zQ (rfl)
    ·skip
     refine reg hF hS (sq rfl (q_move rfl) <|
       sq rfl (q_move rfl) <|
       sq_go 79 rfl rfl rfl (q_move rfl) <|
       sq_go 79 rfl rfl rfl (q_dt (q_eqi rfl rfl) (by decide)) <|
       sq rfl (q_pick_t rfl rfl) <|
       sq rfl (q_move rfl) <|
       sq_go 83 rfl rfl rfl (q_move rfl) <|
       sq_go 83 rfl rfl rfl (q_move rfl) <|
       sq_go 83 rfl rfl rfl (q_dt (q_eqi rfl rfl) (by decide)) <|
       sq rfl (q_pick_t rfl rfl) <|
       sq rfl (q_move rfl) <|
       sq_go 88 rfl rfl rfl (q_move rfl) <|
       sq rfl (q_pick_t rfl rfl) <|
       sq rfl (q_move rfl) <|
       sq_go 91 rfl rfl rfl (q_move rfl) <|
       sq_go 91 rfl rfl rfl (q_df (q_lti rfl rfl) (by omega)) <|
       sq_go 91 rfl rfl rfl (q_move rfl) <|
       sq_go 94 rfl rfl rfl (q_move rfl) <|
       sq_go 94 rfl rfl rfl (q_move rfl) <|
       sq_go 94 rfl rfl rfl (q_dt (q_gei rfl rfl) (by omega)) <|
       sq_go 91 rfl rfl rfl (q_pick_f rfl rfl) <|
       sq_go 91 rfl rfl rfl (q_move rfl) <|
       sq_skip 99 rfl rfl rfl rfl <|
       sq_skip 99 rfl rfl rfl rfl <|
       sq_go 91 rfl rfl rfl (q_pick_t rfl rfl) <|
       sq_go 91 rfl rfl rfl (q_move rfl) <|
       sq_skip 103 rfl rfl rfl rfl <|
       sq_skip 103 rfl rfl rfl rfl <|
       sq_go 91 rfl rfl rfl (q_pick_t rfl rfl) <|
       sq rfl (q_pick_t rfl rfl) <|
       sq rfl (q_assign rfl) <|
       sq_end) ?_
     clear hF hS; intro a w hF hS
     refine hK40 _ _ ?_
     clear hK40
     refine wp_ret ?_
     exact fn_ret (rs := [.tmp 8]) rfl hF hS (vs := [_]) ⟨rfl, trivial⟩ zQ zQ (rfl)
    ·skip
     refine reg hF hS (sq rfl (q_move rfl) <|
       sq rfl (q_move rfl) <|
       sq_go 79 rfl rfl rfl (q_move rfl) <|
       sq_go 79 rfl rfl rfl (q_dt (q_eqi rfl rfl) (by decide)) <|
       sq rfl (q_pick_t rfl rfl) <|
       sq rfl (q_move rfl) <|
       sq_go 83 rfl rfl rfl (q_move rfl) <|
       sq_go 83 rfl rfl rfl (q_move rfl) <|
       sq_go 83 rfl rfl rfl (q_dt (q_eqi rfl rfl) (by decide)) <|
       sq rfl (q_pick_t rfl rfl) <|
       sq rfl (q_move rfl) <|
       sq_go 88 rfl rfl rfl (q_move rfl) <|
       sq rfl (q_pick_t rfl rfl) <|
       sq rfl (q_move rfl) <|
       sq_go 91 rfl rfl rfl (q_move rfl) <|
       sq_go 91 rfl rfl rfl (q_df (q_lti rfl rfl) (by omega)) <|
       sq_go 91 rfl rfl rfl (q_move rfl) <|
       sq_go 94 rfl rfl rfl (q_move rfl) <|
       sq_go 94 rfl rfl rfl (q_move rfl) <|
       sq_go 94 rfl rfl rfl (q_df (q_gei rfl rfl) (by omega)) <|
       sq_go 91 rfl rfl rfl (q_pick_f rfl rfl) <|
       sq_go 91 rfl rfl rfl (q_move rfl) <|
       sq_go 99 rfl rfl rfl (q_move rfl) <|
       sq_go 99 rfl rfl rfl (q_dt (q_lti rfl rfl) (by omega)) <|
       sq_go 91 rfl rfl rfl (q_pick_f rfl rfl) <|
       sq_go 91 rfl rfl rfl (q_move rfl) <|
       sq_skip 103 rfl rfl rfl rfl <|
       sq_skip 103 rfl rfl rfl rfl <|
       sq_go 91 rfl rfl rfl (q_pick_t rfl rfl) <|
       sq rfl (q_pick_t rfl rfl) <|
       sq rfl (q_assign rfl) <|
       sq_end) ?_
     clear hF hS; intro a w hF hS
     refine hK40 _ _ ?_
     clear hK40
     refine wp_ret ?_
     exact fn_ret (rs := [.tmp 8]) rfl hF hS (vs := [_]) ⟨rfl, trivial⟩ zQ zQ (rfl)
    ·skip
     refine reg hF hS (sq rfl (q_move rfl) <|
       sq rfl (q_move rfl) <|
       sq_go 79 rfl rfl rfl (q_move rfl) <|
       sq_go 79 rfl rfl rfl (q_dt (q_eqi rfl rfl) (by decide)) <|
       sq rfl (q_pick_t rfl rfl) <|
       sq rfl (q_move rfl) <|
       sq_go 83 rfl rfl rfl (q_move rfl) <|
       sq_go 83 rfl rfl rfl (q_move rfl) <|
       sq_go 83 rfl rfl rfl (q_dt (q_eqi rfl rfl) (by decide)) <|
       sq rfl (q_pick_t rfl rfl) <|
       sq rfl (q_move rfl) <|
       sq_go 88 rfl rfl rfl (q_move rfl) <|
       sq rfl (q_pick_t rfl rfl) <|
       sq rfl (q_move rfl) <|
       sq_go 91 rfl rfl rfl (q_move rfl) <|
       sq_go 91 rfl rfl rfl (q_df (q_lti rfl rfl) (by omega)) <|
       sq_go 91 rfl rfl rfl (q_move rfl) <|
       sq_go 94 rfl rfl rfl (q_move rfl) <|
       sq_go 94 rfl rfl rfl (q_move rfl) <|
       sq_go 94 rfl rfl rfl (q_df (q_gei rfl rfl) (by omega)) <|
       sq_go 91 rfl rfl rfl (q_pick_f rfl rfl) <|
       sq_go 91 rfl rfl rfl (q_move rfl) <|
       sq_go 99 rfl rfl rfl (q_move rfl) <|
       sq_go 99 rfl rfl rfl (q_df (q_lti rfl rfl) (by omega)) <|
       sq_go 91 rfl rfl rfl (q_pick_f rfl rfl) <|
       sq_go 91 rfl rfl rfl (q_move rfl) <|
       sq_go 103 rfl rfl rfl (q_move rfl) <|
       sq_go 103 rfl rfl rfl (q_dt (q_gti rfl rfl) (by omega)) <|
       sq_go 91 rfl rfl rfl (q_pick_f rfl rfl) <|
       sq rfl (q_pick_t rfl rfl) <|
       sq rfl (q_assign rfl) <|
       sq_end) ?_
     clear hF hS; intro a w hF hS
     refine hK40 _ _ ?_
     clear hK40
     refine wp_ret ?_
     exact fn_ret (rs := [.tmp 8]) rfl hF hS (vs := [_]) ⟨rfl, trivial⟩ zQ zQ (rfl)

set_option maxRecDepth 4000 in
set_option maxHeartbeats 2000000 in
theorem dlaw5x_ct (n : Int) (hn : ¬ (1 ≤ n ∧ n ≤ 64)) (v : Value) (os : List Dk.Op) (at_ b : Int) (w : World) (hb1 : Sl Go.Fw.encO (ph w) v os) (hat : -9223372036854775808 ≤ at_ ∧ at_ ≤ 9223372036854775807) (hbt : -9223372036854775808 ≤ b ∧ b ≤ 9223372036854775807) : Ct Try.prog 7 [vi n, v, vi at_, vi b] w (fun r _ _ => r = .bool true) := by
 refine fn_enter Try.func7 rfl Try.ntmps7 (Nat.le_of_ble_eq_true rfl) fun a hF hS => ?_
 have hol := hb1.1
 refine wp_seq_k ?_; intro K1 hK1
 refine reg hF hS (sq rfl (q_assign rfl) <|
   sq_end) ?_
 clear hF hS; intro a w hF hS
 refine hK1 _ _ ?_
 clear hK1
 refine wp_seq_k ?_; intro K2 hK2
 refine reg hF hS (sq rfl (q_call fn9 rfl (fun w hS => sanity_ct w ) (fun _ _ _ h => h)) <|
   sq rfl (q_assign rfl) <|
   sq_end) ?_
 clear hF hS; intro a w hF hS
 refine hK2 _ _ ?_
 clear hK2
 refine wp_seq_k ?_; intro K3 hK3
 refine reg hF hS (sq rfl (q_move rfl) <|
   sq rfl (q_call fn10 rfl (fun w hS => startx_ct _ (by omega) w ) (fun _ _ _ h => h)) <|
   sq rfl (q_move rfl) <|
   sq rfl (q_extract rfl rfl) <|
   sq rfl (q_extract rfl rfl) <|
   sq rfl (q_extract rfl rfl) <|
   sq rfl (q_assign rfl) <|
   sq rfl (q_assign rfl) <|
   sq rfl (q_assign rfl) <|
   sq_end) ?_
 clear hF hS; intro a w hF hS
 refine hK3 _ _ ?_
 clear hK3
 refine wp_seq_k ?_; intro K4 hK4
 refine wp_seq_k ?_; intro K5 hK5
 refine reg hF hS (sq rfl (q_move rfl) <|
   sq rfl (q_not rfl) <|
   sq rfl (q_move rfl) <|
   sq_skip 31 rfl rfl rfl rfl <|
   sq_skip 31 rfl rfl rfl rfl <|
   sq_skip 31 rfl rfl rfl rfl <|
   sq rfl (q_pick_t rfl rfl) <|
   sq_end) ?_
 clear hF hS; intro a w hF hS
 refine hK5 _ _ ?_
 clear hK5
 refine wp_if hF rfl (fun _ => ?_) (fun h => absurd h (by simp))
 refine wp_seq_k ?_; intro K6 hK6
 rcases Decidable.em (n < 1) with hB | hB
 ·skip
  refine reg hF hS (sq rfl (q_move rfl) <|
    sq rfl (q_move rfl) <|
    sq_go 37 rfl rfl rfl (q_move rfl) <|
    sq_go 37 rfl rfl rfl (q_move rfl) <|
    sq_go 39 rfl rfl rfl (q_move rfl) <|
    sq_go 39 rfl rfl rfl (q_dt (q_lti rfl rfl) (by simpa using hB)) <|
    sq_go 37 rfl rfl rfl (q_pick_f rfl rfl) <|
    sq_go 37 rfl rfl rfl (q_move rfl) <|
    sq_skip 43 rfl rfl rfl rfl <|
    sq_skip 43 rfl rfl rfl rfl <|
    sq_go 37 rfl rfl rfl (q_pick_t rfl rfl) <|
    sq rfl (q_pick_t rfl rfl) <|
    sq rfl (q_assign rfl) <|
    sq_end) ?_
  clear hF hS; intro a w hF hS
  refine hK6 _ _ ?_
  clear hK6
  refine wp_ret ?_
  exact fn_ret (rs := [.tmp 8]) rfl hF hS (vs := [_]) ⟨rfl, trivial⟩ zQ zQ (rfl)
 ·skip
  refine reg hF hS (sq rfl (q_move rfl) <|
    sq rfl (q_move rfl) <|
    sq_go 37 rfl rfl rfl (q_move rfl) <|
    sq_go 37 rfl rfl rfl (q_move rfl) <|
    sq_go 39 rfl rfl rfl (q_move rfl) <|
    sq_go 39 rfl rfl rfl (q_df (q_lti rfl rfl) (by simpa using hB)) <|
    sq_go 37 rfl rfl rfl (q_pick_f rfl rfl) <|
    sq_go 37 rfl rfl rfl (q_move rfl) <|
    sq_go 43 rfl rfl rfl (q_move rfl) <|
    sq_go 43 rfl rfl rfl (q_dt (q_gti rfl rfl) (by omega)) <|
    sq_go 37 rfl rfl rfl (q_pick_f rfl rfl) <|
    sq rfl (q_pick_t rfl rfl) <|
    sq rfl (q_assign rfl) <|
    sq_end) ?_
  clear hF hS; intro a w hF hS
  refine hK6 _ _ ?_
  clear hK6
  refine wp_ret ?_
  exact fn_ret (rs := [.tmp 8]) rfl hF hS (vs := [_]) ⟨rfl, trivial⟩ zQ zQ (rfl)

theorem dlaw5_all (n : Int) (v : Value) (os : List Dk.Op) (at_ b : Int) (hat : -9223372036854775808 ≤ at_ ∧ at_ ≤ 9223372036854775807) (hbt : -9223372036854775808 ≤ b ∧ b ≤ 9223372036854775807) (w : World) (hb1 : Sl Go.Fw.encO (ph w) v os) : Ct Try.prog 7 [vi n, v, vi at_, vi b] w (fun r _ _ => r = .bool true) := by
 rcases Decidable.em (1 ≤ n ∧ n ≤ 64) with h | h
 ·obtain ⟨m, rfl⟩ : ∃ m : Nat, n = (m : Int) := ⟨n.toNat, by omega⟩
  exact dlaw5_ct m (by omega) v os at_ b w hb1 hat hbt
 ·exact dlaw5x_ct n h v os at_ b w hb1 hat hbt
end Go.Proofs.Ytbgbfmdnpjpdgaa
