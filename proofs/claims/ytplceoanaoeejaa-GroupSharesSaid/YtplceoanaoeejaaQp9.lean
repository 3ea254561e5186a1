/- A text of a proof over this seat: walks over the program's functions and the plain laws that they need. -/
import Derived.Test.YtplceoanaoeejaaQp8
import Derived.Test.YtplceoanaoeejaaGpA
import Derived.Test.YtplceoanaoeejaaFwC
import Derived.Test.YtplceoanaoeejaaFwB
set_option linter.all false
namespace Go.Proofs.Ytplceoanaoeejaa
open Go.Fw
theorem ty83 : Tf Try.prog 83 (.array 9 3) 9 72 (.agg (List.replicate 9 (Value.int .i64 0)).toArray) := ⟨Try.underlying83, by kernel_rfl⟩
theorem ty84 : Tf Try.prog 84 (.array 9 83) 81 648 (.agg (List.replicate 81 (Value.int .i64 0)).toArray) := ⟨Try.underlying84, by kernel_rfl⟩

set_option maxRecDepth 4000 in
set_option maxHeartbeats 2000000 in
theorem most_ct (n d : Int) (w : World) : Ct Try.prog 19 [vi n, vi d] w (fun r _ _ => r = .tuple #[vi (Gp.moV n d), vi (Gp.moE n d)]) := by
 refine fn_enter Try.func19 rfl Try.ntmps19 (Nat.le_of_ble_eq_true rfl) fun a hF hS => ?_
 refine wp_seq_k ?_; intro K1 hK1
 refine reg hF hS (sq rfl (q_assign rfl) <|
   sq rfl (q_assign rfl) <|
   sq_end) ?_
 clear hF hS; intro a w hF hS
 refine hK1 _ _ ?_
 clear hK1
 refine wp_seq_k ?_; intro K2 hK2
 refine wp_seq_k ?_; intro K3 hK3
 refine regl ?_
 refine wpl_sq hF hS (sq rfl (q_move rfl) <|
   sq rfl (q_lti rfl rfl) <|
   sq rfl (q_move rfl) <|
   sq_end) ?_
 clear hF hS; intro a w hF hS
 refine wpl_or 2 14 2 hF hS rfl rfl rfl rfl rfl (fun hg => have hg := (by first | exact of_decide_eq_false hg | exact hg); sq_go 14 rfl rfl rfl (q_move rfl) <|
   sq_go 14 rfl rfl rfl (q_gti rfl rfl) <|
   sq_end) rfl rfl ?_
 clear hF hS; intro a w hF hS
 refine wpl_sq hF hS (sq rfl (q_move rfl) <|
   sq_end) ?_
 clear hF hS; intro a w hF hS
 refine wpl_or 6 18 2 hF hS rfl rfl rfl rfl rfl (fun hg => have hg := hg; sq_go 18 rfl rfl rfl (q_move rfl) <|
   sq_go 18 rfl rfl rfl (q_lti rfl rfl) <|
   sq_end) rfl rfl ?_
 clear hF hS; intro a w hF hS
 refine wpl_sq hF hS (sq rfl (q_move rfl) <|
   sq_end) ?_
 clear hF hS; intro a w hF hS
 refine wpl_or 10 22 3 hF hS rfl rfl rfl rfl rfl (fun hg => have hg := hg; sq_go 22 rfl rfl rfl (q_move rfl) <|
   sq_go 22 rfl rfl rfl (q_move rfl) <|
   sq_go 22 rfl rfl rfl (q_gti rfl rfl) <|
   sq_end) rfl rfl ?_
 clear hF hS; intro a w hF hS
 refine wpList_nil ?_
 refine hK3 _ _ ?_
 clear hK3
 refine wp_if hF rfl (fun hc1 => ?_) (fun hc1 => ?_)
 ·(try simp only [Bool.or_eq_true, Bool.and_eq_true, Bool.or_eq_false_iff, Bool.and_eq_false_iff, decide_eq_true_eq, decide_eq_false_iff_not, Bool.not_eq_true', Bool.not_eq_false'] at hc1)
  refine wp_seq_k ?_; intro K4 hK4
  refine reg hF hS (sq rfl (q_assign rfl) <|
    sq rfl (q_assign rfl) <|
    sq_end) ?_
  clear hF hS; intro a w hF hS
  refine hK4 _ _ ?_
  clear hK4
  refine wp_ret ?_
  exact fn_ret (rs := [.tmp 4, .tmp 5]) rfl hF hS (vs := [_, _]) ⟨rfl, rfl, trivial⟩ zQ zQ (by unfold Gp.moV Gp.moE; rw [if_pos hc1, if_pos hc1])
 ·(try simp only [Bool.or_eq_true, Bool.and_eq_true, Bool.or_eq_false_iff, Bool.and_eq_false_iff, decide_eq_true_eq, decide_eq_false_iff_not, Bool.not_eq_true', Bool.not_eq_false'] at hc1)
  refine wp_skip ?_
  refine hK2 _ _ ?_
  clear hK2
  refine wp_seq_k ?_; intro K5 hK5
  refine regl ?_
  refine wpl_ef hF hS rfl (ef_allocA ty84) ?_
  clear hF hS; rintro _ _ _ a w ⟨b1, rfl, rfl, rfl⟩ hF hS
  refine wpList_nil ?_
  refine hK5 _ _ ?_
  clear hK5
  refine wp_seq_k ?_; intro K6 hK6
  refine wp_seq_k ?_; intro K7 hK7
  refine reg hF hS (sq rfl (q_assign rfl) <|
    sq_end) ?_
  clear hF hS; intro a w hF hS
  refine hK7 _ _ ?_
  clear hK7
  refine wp_block ?_
  obtain ⟨hs0, hhs0, hS⟩ : ∃ h, h = _ ∧ St _ _ h _ := ⟨_, rfl, hS⟩
  refine wp_loopx (γ := List Int × Int) (List.replicate 81 0, 1) (fun (gg : List Int × Int) => match gg with | (tab, k) => [(7, vi k)]) [(0, _), (1, _), (6, _)] (fun (gg : List Int × Int) => match gg with | (tab, k) => (hs0.set 0 (.blk b1 84 (tab.map vi)))) (fun (gg : List Int × Int) => match gg with | (tab, k) => 1 ≤ k ∧ k ≤ n + 1 ∧ Gp.TabK tab k.toNat) (fun (gg : List Int × Int) => match gg with | (tab, k) => (n + 1 - k).toNat) (hF.sub ⟨rfl, rfl, rfl, rfl, trivial⟩) (by subst hhs0; dsimp only; rw [List.map_replicate]; exact hS) (by exact ⟨Int.le_refl _, by omega, Gp.TabK.start⟩) ?_
  clear hF hS; rintro ⟨tab, k⟩ a w hfact hF hS
  subst hhs0; (try dsimp only at hfact); (try dsimp only at hF); (try dsimp only at hS)
  obtain ⟨hk0, hk1, htk⟩ := hfact
  replace hS : St _ [] [_] _ := hS
  have htl := htk.1
  refine wp_seq_k ?_; intro K8 hK8
  refine wp_seq_k ?_; intro K9 hK9
  refine reg hF hS (sq rfl (q_move rfl) <|
    sq rfl (q_move rfl) <|
    sq rfl (q_lei rfl rfl) <|
    sq_end) ?_
  clear hF hS; intro a w hF hS
  refine hK9 _ _ ?_
  clear hK9
  refine wp_ifd hF rfl (fun hc2 => ?_) (fun hc2 => ?_)
  ·refine wp_skip ?_
   refine hK8 _ _ ?_
   clear hK8
   refine wp_seq_k ?_; intro K10 hK10
   refine wp_block ?_
   refine wp_seq_k ?_; intro K11 hK11
   refine reg hF hS (sq rfl (q_assign rfl) <|
     sq_end) ?_
   clear hF hS; intro a w hF hS
   refine hK11 _ _ ?_
   clear hK11
   refine wp_block ?_
   obtain ⟨hs0, hhs0, hS⟩ : ∃ h, h = _ ∧ St _ _ h _ := ⟨_, rfl, hS⟩
   refine wp_loopx (γ := List Int × Int) (tab, 0) (fun (gg : List Int × Int) => match gg with | (tab1, i) => [(8, vi i)]) [(0, _), (1, _), (6, _), (7, _)] (fun (gg : List Int × Int) => match gg with | (tab1, i) => (hs0.set 0 (.blk b1 84 (tab1.map vi)))) (fun (gg : List Int × Int) => match gg with | (tab1, i) => 0 ≤ i ∧ i ≤ k + 1 ∧ Gp.TabI tab1 k.toNat i.toNat) (fun (gg : List Int × Int) => match gg with | (tab1, i) => (k + 1 - i).toNat) (hF.sub ⟨rfl, rfl, rfl, rfl, rfl, trivial⟩) (by subst hhs0; exact hS) (by exact ⟨Int.le_refl _, by omega, Gp.TabI.start htk⟩) ?_
   clear hF hS; rintro ⟨tab1, i⟩ a w hfact hF hS
   subst hhs0; (try dsimp only at hfact); (try dsimp only at hF); (try dsimp only at hS)
   obtain ⟨hi0, hi1, hti⟩ := hfact
   replace hS : St _ [] [_] _ := hS
   have htl1 := hti.1.1
   refine wp_seq_k ?_; intro K12 hK12
   refine wp_seq_k ?_; intro K13 hK13
   refine reg hF hS (sq rfl (q_move rfl) <|
     sq rfl (q_move rfl) <|
     sq rfl (q_lei rfl rfl) <|
     sq_end) ?_
   clear hF hS; intro a w hF hS
   refine hK13 _ _ ?_
   clear hK13
   refine wp_ifd hF rfl (fun hc3 => ?_) (fun hc3 => ?_)
   ·refine wp_skip ?_
    refine hK12 _ _ ?_
    clear hK12
    refine wp_seq_k ?_; intro K14 hK14
    refine wp_block ?_
    refine wp_seq_k ?_; intro K15 hK15
    refine regl ?_
    refine wpl_sq hF hS (sq rfl (q_move rfl) <|
      sq rfl (q_move rfl) <|
      sq rfl (q_idx_arr ty84 ty83 rfl rfl (by omega)) <|
      sq rfl (q_idx_arr ty83 ty3 rfl rfl (by omega)) <|
      sq_end) ?_
    clear hF hS; intro a w hF hS
    refine wpl_ef hF hS rfl (ef_st_blkM ty3 0 rfl rfl rfl bQ rfl) ?_
    clear hF hS; rintro _ _ _ a w ⟨rfl, rfl, rfl⟩ hF hS
    replace hS : St _ [] [_] _ := hS
    refine wpList_nil ?_
    refine hK15 _ _ ?_
    clear hK15
    refine wp_seq_k ?_; intro K16 hK16
    refine wp_seq_k ?_; intro K17 hK17
    refine regl ?_
    refine wpl_sq hF hS (sq rfl (q_move rfl) <|
      sq rfl (q_eqi rfl rfl) <|
      sq rfl (q_move rfl) <|
      sq_end) ?_
    clear hF hS; intro a w hF hS
    refine wpl_or 2 43 2 hF hS rfl rfl rfl rfl rfl (fun hg => have hg := (by first | exact of_decide_eq_false hg | exact hg); sq_go 43 rfl rfl rfl (q_move rfl) <|
      sq_go 43 rfl rfl rfl (q_eqi rfl rfl) <|
      sq_end) rfl rfl ?_
    clear hF hS; intro a w hF hS
    refine wpList_nil ?_
    refine hK17 _ _ ?_
    clear hK17
    refine wp_if hF rfl (fun hc4 => ?_) (fun hc4 => ?_)
    ·(try simp only [Bool.or_eq_true, Bool.and_eq_true, Bool.or_eq_false_iff, Bool.and_eq_false_iff, decide_eq_true_eq, decide_eq_false_iff_not, Bool.not_eq_true', Bool.not_eq_false'] at hc4)
     refine wp_exit ?_
     refine hK14 _ _ ?_
     clear hK14
     refine reg hF hS (sq rfl (q_move rfl) <|
       sq rfl (q_addi rfl rfl (by omega)) <|
       sq rfl (q_assign rfl) <|
       sq_end) ?_
     clear hF hS; intro a w hF hS
     refine ⟨(tab1.set (0 + k.toNat * 9 + i.toNat * 1) 1, i + 1), ?_, ?_, hF.sub ⟨rfl, rfl, rfl, rfl, rfl, trivial⟩, ?_⟩
     ·(try dsimp only); omega
     ·refine ⟨by omega, by omega, ?_⟩
      rw [show (i + 1).toNat = i.toNat + 1 by omega, Nat.zero_add, Nat.mul_one]
      exact Gp.most_1 hti (by omega) (by omega) (by omega)
     ·exact hS
    ·(try simp only [Bool.or_eq_true, Bool.and_eq_true, Bool.or_eq_false_iff, Bool.and_eq_false_iff, decide_eq_true_eq, decide_eq_false_iff_not, Bool.not_eq_true', Bool.not_eq_false'] at hc4)
     refine wp_skip ?_
     refine hK16 _ _ ?_
     clear hK16
     refine wp_seq_k ?_; intro K18 hK18
     refine reg hF hS (sq rfl (q_move rfl) <|
       sq rfl (q_quoi rfl rfl (by omega)) <|
       sq rfl (q_move rfl) <|
       sq rfl (q_move rfl) <|
       sq rfl (q_quoi rfl rfl (by omega)) <|
       sq rfl (q_subi rfl rfl (by omega)) <|
       sq rfl (q_assign rfl) <|
       sq rfl (q_assign rfl) <|
       sq_end) ?_
     clear hF hS; intro a w hF hS
     refine hK18 _ _ ?_
     clear hK18
     refine wp_seq_k ?_; intro K19 hK19
     refine reg hF hS (sq rfl (q_move rfl) <|
       sq rfl (q_move rfl) <|
       sq rfl (q_subi rfl rfl (by omega)) <|
       sq rfl (q_max rfl rfl) <|
       sq rfl (q_assign rfl) <|
       sq_end) ?_
     clear hF hS; intro a w hF hS
     refine hK19 _ _ ?_
     clear hK19
     refine wp_block ?_
     obtain ⟨hs0, hhs0, hS⟩ : ∃ h, h = _ ∧ St _ _ h _ := ⟨_, rfl, hS⟩
     refine wp_loopx (γ := List Int × Int) (tab1.set (0 + k.toNat * 9 + i.toNat * 1) 1, max 0 (i - (k - k / 2))) (fun (gg : List Int × Int) => match gg with | (tab2, j) => [(11, vi j)]) [(0, _), (1, _), (6, _), (7, _), (8, _), (9, _), (10, _)] (fun (gg : List Int × Int) => match gg with | (tab2, j) => (hs0.set 0 (.blk b1 84 (tab2.map vi)))) (fun (gg : List Int × Int) => match gg with | (tab2, j) => 0 ≤ j ∧ i - (k - k / 2) ≤ j ∧ j ≤ k + 1 ∧ Gp.TabI tab2 k.toNat i.toNat ∧ tab2.getD (0 + k.toNat * 9 + i.toNat * 1) 0 = Gp.pf k.toNat i.toNat j.toNat ∧ 0 ≤ tab2.getD (0 + k.toNat * 9 + i.toNat * 1) 0 ∧ tab2.getD (0 + k.toNat * 9 + i.toNat * 1) 0 ≤ 31) (fun (gg : List Int × Int) => match gg with | (tab2, j) => (k + 1 - j).toNat) (hF.sub ⟨rfl, rfl, rfl, rfl, rfl, rfl, rfl, rfl, trivial⟩) (by subst hhs0; exact hS) (by refine ⟨by omega, by omega, by omega, ?_⟩; have h9 := Gp.most_0 hti (by omega) (by omega); rw [Nat.zero_add, Nat.mul_one, show (max 0 (i - (k - k / 2))).toNat = i.toNat - (k.toNat - k.toNat / 2) by omega]; exact h9) ?_
     clear hF hS; rintro ⟨tab2, j⟩ a w hfact hF hS
     subst hhs0; (try dsimp only at hfact); (try dsimp only at hF); (try dsimp only at hS)
     obtain ⟨hj0, hj1, hj2, htj, hpf⟩ := hfact
     replace hS : St _ [] [_] _ := hS
     have htl2 := htj.1.1
     refine wp_seq_k ?_; intro K20 hK20
     refine wp_seq_k ?_; intro K21 hK21
     refine reg hF hS (sq rfl (q_move rfl) <|
       sq rfl (q_move rfl) <|
       sq rfl (q_move rfl) <|
       sq rfl (q_min rfl rfl) <|
       sq rfl (q_lei rfl rfl) <|
       sq_end) ?_
     clear hF hS; intro a w hF hS
     refine hK21 _ _ ?_
     clear hK21
     refine wp_ifd hF rfl (fun hc5 => ?_) (fun hc5 => ?_)
     ·have e1 : (k / 2).toNat = k.toNat / 2 := by omega
      have e2 : (k - k / 2).toNat = k.toNat - k.toNat / 2 := by omega
      have e3 : (i - j).toNat = i.toNat - j.toNat := by omega
      have hA := htj.1.2 (k.toNat / 2) j.toNat (by omega) (by omega)
      have hB := htj.1.2 (k.toNat - k.toNat / 2) (i.toNat - j.toNat) (by omega) (by omega)
      have hA9 := Gp.M_bd' (k := k.toNat / 2) (i := j.toNat) (by omega) (by omega)
      have hB9 := Gp.M_bd' (k := k.toNat - k.toNat / 2) (i := i.toNat - j.toNat) (by omega) (by omega)
      rw [← hA] at hA9
      rw [← hB] at hB9
      have hA8 : 0 ≤ tab2.getD (0 + (k / 2).toNat * 9 + j.toNat * 1) 0 ∧ tab2.getD (0 + (k / 2).toNat * 9 + j.toNat * 1) 0 ≤ 15 := by rw [Nat.zero_add, Nat.mul_one, e1]; exact hA9
      have hB8 : 0 ≤ tab2.getD (0 + (k - k / 2).toNat * 9 + (i - j).toNat * 1) 0 ∧ tab2.getD (0 + (k - k / 2).toNat * 9 + (i - j).toNat * 1) 0 ≤ 15 := by rw [Nat.zero_add, Nat.mul_one, e2, e3]; exact hB9
      refine wp_skip ?_
      refine hK20 _ _ ?_
      clear hK20
      refine wp_seq_k ?_; intro K22 hK22
      refine wp_block ?_
      refine regt 24 mixed kQ hF hS (sq rfl (q_move rfl) <|
        sq rfl (q_move rfl) <|
        sq rfl (q_move rfl) <|
        sq rfl (q_move rfl) <|
        sq rfl (q_idx_arr ty84 ty83 rfl rfl (by omega)) <|
        sq rfl (q_idx_arr ty83 ty3 rfl rfl (by omega)) <|
        sq rfl (q_ld_blkM ty3 0 0 rfl rfl bQ rfl) <|
        sq rfl (q_move rfl) <|
        sq rfl (q_move rfl) <|
        sq rfl (q_idx_arr ty84 ty83 rfl rfl (by omega)) <|
        sq rfl (q_idx_arr ty83 ty3 rfl rfl (by omega)) <|
        sq rfl (q_ld_blkM ty3 0 0 rfl rfl bQ rfl) <|
        sq rfl (q_addi rfl rfl (by omega)) <|
        sq rfl (q_move rfl) <|
        sq rfl (q_move rfl) <|
        sq rfl (q_move rfl) <|
        sq rfl (q_subi rfl rfl (by omega)) <|
        sq rfl (q_idx_arr ty84 ty83 rfl rfl (by omega)) <|
        sq rfl (q_idx_arr ty83 ty3 rfl rfl (by omega)) <|
        sq rfl (q_ld_blkM ty3 0 0 rfl rfl bQ rfl) <|
        sq rfl (q_addi rfl rfl (by omega)) <|
        sq rfl (q_max rfl rfl) <|
        sq rfl (q_idx_arr ty84 ty83 rfl rfl (by omega)) <|
        sq rfl (q_idx_arr ty83 ty3 rfl rfl (by omega)) <|
        sq_end) ?_
      clear hF hS; intro a w hF hS
      refine wpl_ef hF hS rfl (ef_st_blkM ty3 0 rfl rfl rfl bQ rfl) ?_
      clear hF hS; rintro _ _ _ a w ⟨rfl, rfl, rfl⟩ hF hS
      replace hS : St _ [] [_] _ := hS
      refine wpList_nil ?_
      refine hK22 _ _ ?_
      clear hK22
      refine reg hF hS (sq rfl (q_move rfl) <|
        sq rfl (q_addi rfl rfl (by omega)) <|
        sq rfl (q_assign rfl) <|
        sq_end) ?_
      clear hF hS; intro a w hF hS
      refine ⟨((tab2.set (0 + k.toNat * 9 + i.toNat * 1) (max (tab2.getD (0 + k.toNat * 9 + i.toNat * 1) 0) (1 + tab2.getD (0 + (k / 2).toNat * 9 + j.toNat * 1) 0 + tab2.getD (0 + (k - k / 2).toNat * 9 + (i - j).toNat * 1) 0))), j + 1), ?_, ?_, hF.sub ⟨rfl, rfl, rfl, rfl, rfl, rfl, rfl, rfl, trivial⟩, ?_⟩
      ·(try dsimp only); omega
      ·refine ⟨by omega, by omega, by omega, ?_⟩
       rw [Nat.zero_add, Nat.mul_one] at hpf
       have h9 := Gp.most_in htj (by omega) (by omega) (by omega) hpf.1 hpf.2 rfl
       rw [show (j + 1).toNat = j.toNat + 1 by omega]
       simp only [Nat.zero_add, Nat.mul_one, e1, e2, e3]
       exact h9
      ·exact hS
     ·refine wp_exit ?_
      refine hK14 _ _ ?_
      clear hK14
      refine reg hF hS (sq rfl (q_move rfl) <|
        sq rfl (q_addi rfl rfl (by omega)) <|
        sq rfl (q_assign rfl) <|
        sq_end) ?_
      clear hF hS; intro a w hF hS
      refine ⟨(tab2, i + 1), ?_, ?_, hF.sub ⟨rfl, rfl, rfl, rfl, rfl, trivial⟩, ?_⟩
      ·(try dsimp only); omega
      ·refine ⟨by omega, by omega, ?_⟩
       rw [show (i + 1).toNat = i.toNat + 1 by omega]
       rw [Nat.zero_add, Nat.mul_one] at hpf
       exact Gp.most_2 htj (by omega) (by omega) (j := j.toNat) (by omega) (by omega) hpf.1
      ·exact hS
   ·refine wp_exit ?_
    refine hK10 _ _ ?_
    clear hK10
    refine reg hF hS (sq rfl (q_move rfl) <|
      sq rfl (q_addi rfl rfl (by omega)) <|
      sq rfl (q_assign rfl) <|
      sq_end) ?_
    clear hF hS; intro a w hF hS
    refine ⟨(tab1, k + 1), ?_, ?_, hF.sub ⟨rfl, rfl, rfl, rfl, trivial⟩, ?_⟩
    ·(try dsimp only); omega
    ·exact ⟨by omega, by omega, by rw [show (k + 1).toNat = k.toNat + 1 by omega]; exact Gp.TabK.next (by have := hti; rw [show i.toNat = k.toNat + 1 by omega] at this; exact this)⟩
    ·exact hS
  ·refine wp_exit ?_
   refine hK6 _ _ ?_
   clear hK6
   refine wp_seq_k ?_; intro K23 hK23
   refine reg hF hS (sq rfl (q_move rfl) <|
     sq rfl (q_move rfl) <|
     sq rfl (q_idx_arr ty84 ty83 rfl rfl (by omega)) <|
     sq rfl (q_idx_arr ty83 ty3 rfl rfl (by omega)) <|
     sq rfl (q_ld_blkM ty3 0 0 rfl rfl bQ rfl) <|
     sq rfl (q_assign rfl) <|
     sq rfl (q_assign rfl) <|
     sq_end) ?_
   clear hF hS; intro a w hF hS
   refine hK23 _ _ ?_
   clear hK23
   refine wp_ret ?_
   exact fn_ret (rs := [.tmp 4, .tmp 5]) rfl hF hS (vs := [_, _]) ⟨rfl, rfl, trivial⟩ zQ zQ (by rw [Nat.zero_add, Nat.mul_one, Gp.most_3 (k := k.toNat) htk (by omega) hc1]; unfold Gp.moE; rw [if_neg (by omega)])
end Go.Proofs.Ytplceoanaoeejaa
