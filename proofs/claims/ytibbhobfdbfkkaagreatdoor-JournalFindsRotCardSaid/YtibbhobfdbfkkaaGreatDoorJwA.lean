/- A text of a proof over this seat: walks over the program's functions and the plain laws that they need. -/
import Derived.Test.YtibbhobfdbfkkaaGreatDoorJg1
import Derived.Test.YtibbhobfdbfkkaaGreatDoorJnA
import Derived.Test.YtibbhobfdbfkkaaGreatDoorFwD
set_option linter.all false
section
namespace Go.Proofs.YtibbhobfdbfkkaaGreatDoor
open Go.Fw


attribute [local irreducible] Sha.sum

set_option maxRecDepth 4000 in
set_option maxHeartbeats 2000000 in
theorem count_ct (n : Int) (hn : -9223372036854775808 ≤ n ∧ n ≤ 9223372036854775807) (w : World) : Ct Tryz.prog 16 [vi n] w (fun r _ _ => r = vi (Jn.cnt n)) := by
 refine fn_enter Tryz.func16 rfl Tryz.ntmps16 (Nat.le_of_ble_eq_true rfl) fun a hF hS => ?_
 refine wp_seq_k ?_; intro K1 hK1
 refine reg hF hS (sq rfl (q_assign rfl) <|
   sq_end) ?_
 clear hF hS; intro a w hF hS
 refine hK1 _ _ ?_
 clear hK1
 refine wp_seq_k ?_; intro K2 hK2
 refine wp_seq_k ?_; intro K3 hK3
 refine regl ?_
 refine wpl_sq hF hS (sq rfl (q_move rfl) <|
   sq rfl (q_lti rfl rfl) <|
   sq rfl (q_move rfl) <|
   sq_end) ?_
 clear hF hS; intro a w hF hS
 refine wpl_or 2 5 2 hF hS rfl rfl rfl rfl rfl (fun hg => have hg := (by first | exact of_decide_eq_false hg | exact hg); sq_go 5 rfl rfl rfl (q_move rfl) <|
   sq_go 5 rfl rfl rfl (q_gti rfl rfl) <|
   sq_end) rfl rfl ?_
 clear hF hS; intro a w hF hS
 refine wpList_nil ?_
 refine hK3 _ _ ?_
 clear hK3
 refine wp_if hF rfl (fun hc1 => ?_) (fun hc1 => ?_)
 ·(try simp only [Bool.or_eq_true, Bool.and_eq_true, Bool.or_eq_false_iff, Bool.and_eq_false_iff, decide_eq_true_eq, decide_eq_false_iff_not, Bool.not_eq_true', Bool.not_eq_false'] at hc1)
  refine wp_seq_k ?_; intro K4 hK4
  refine reg hF hS (sq rfl (q_assign rfl) <|
    sq_end) ?_
  clear hF hS; intro a w hF hS
  refine hK4 _ _ ?_
  clear hK4
  refine wp_ret ?_
  exact fn_ret (rs := [.tmp 2]) rfl hF hS (vs := [_]) ⟨rfl, trivial⟩ zQ zQ (by rw [Jn.cnt_1 (by omega)])
 ·(try simp only [Bool.or_eq_true, Bool.and_eq_true, Bool.or_eq_false_iff, Bool.and_eq_false_iff, decide_eq_true_eq, decide_eq_false_iff_not, Bool.not_eq_true', Bool.not_eq_false'] at hc1)
  refine wp_skip ?_
  refine hK2 _ _ ?_
  clear hK2
  refine wp_seq_k ?_; intro K5 hK5
  refine reg hF hS (sq rfl (q_move rfl) <|
    sq rfl (q_addi rfl rfl (by omega)) <|
    sq rfl (q_subi rfl rfl (by omega)) <|
    sq rfl (q_quoi rfl rfl (by omega)) <|
    sq rfl (q_max rfl rfl) <|
    sq rfl (q_assign rfl) <|
    sq_end) ?_
  clear hF hS; intro a w hF hS
  refine hK5 _ _ ?_
  clear hK5
  refine wp_ret ?_
  exact fn_ret (rs := [.tmp 2]) rfl hF hS (vs := [_]) ⟨rfl, trivial⟩ zQ zQ (by rw [Jn.cnt_2 (by omega)])

set_option maxRecDepth 4000 in
set_option maxHeartbeats 2000000 in
theorem jrcount_ct (n : Int) (hn : -9223372036854775808 ≤ n ∧ n ≤ 9223372036854775807) (w : World) : Ct Tryz.prog 56 [vi n] w (fun r _ _ => r = vi (Jn.cnt n)) := by
 refine fn_enter Tryz.func56 rfl Tryz.ntmps56 (Nat.le_of_ble_eq_true rfl) fun a hF hS => ?_
 refine wp_seq_k ?_; intro K1 hK1
 refine reg hF hS (sq rfl (q_assign rfl) <|
   sq_end) ?_
 clear hF hS; intro a w hF hS
 refine hK1 _ _ ?_
 clear hK1
 refine wp_seq_k ?_; intro K2 hK2
 refine wp_seq_k ?_; intro K3 hK3
 refine regl ?_
 refine wpl_sq hF hS (sq rfl (q_move rfl) <|
   sq rfl (q_lti rfl rfl) <|
   sq rfl (q_move rfl) <|
   sq_end) ?_
 clear hF hS; intro a w hF hS
 refine wpl_or 2 5 2 hF hS rfl rfl rfl rfl rfl (fun hg => have hg := (by first | exact of_decide_eq_false hg | exact hg); sq_go 5 rfl rfl rfl (q_move rfl) <|
   sq_go 5 rfl rfl rfl (q_gti rfl rfl) <|
   sq_end) rfl rfl ?_
 clear hF hS; intro a w hF hS
 refine wpList_nil ?_
 refine hK3 _ _ ?_
 clear hK3
 refine wp_if hF rfl (fun hc1 => ?_) (fun hc1 => ?_)
 ·(try simp only [Bool.or_eq_true, Bool.and_eq_true, Bool.or_eq_false_iff, Bool.and_eq_false_iff, decide_eq_true_eq, decide_eq_false_iff_not, Bool.not_eq_true', Bool.not_eq_false'] at hc1)
  refine wp_seq_k ?_; intro K4 hK4
  refine reg hF hS (sq rfl (q_assign rfl) <|
    sq_end) ?_
  clear hF hS; intro a w hF hS
  refine hK4 _ _ ?_
  clear hK4
  refine wp_ret ?_
  exact fn_ret (rs := [.tmp 2]) rfl hF hS (vs := [_]) ⟨rfl, trivial⟩ zQ zQ (by rw [Jn.cnt_1 (by omega)])
 ·(try simp only [Bool.or_eq_true, Bool.and_eq_true, Bool.or_eq_false_iff, Bool.and_eq_false_iff, decide_eq_true_eq, decide_eq_false_iff_not, Bool.not_eq_true', Bool.not_eq_false'] at hc1)
  refine wp_skip ?_
  refine hK2 _ _ ?_
  clear hK2
  refine wp_seq_k ?_; intro K5 hK5
  refine wp_seq_k ?_; intro K6 hK6
  refine reg hF hS (sq rfl (q_move rfl) <|
    sq rfl (q_eqi rfl rfl) <|
    sq_end) ?_
  clear hF hS; intro a w hF hS
  refine hK6 _ _ ?_
  clear hK6
  refine wp_ifd hF rfl (fun hc2 => ?_) (fun hc2 => ?_)
  ·refine wp_seq_k ?_; intro K7 hK7
   refine reg hF hS (sq rfl (q_assign rfl) <|
     sq_end) ?_
   clear hF hS; intro a w hF hS
   refine hK7 _ _ ?_
   clear hK7
   refine wp_ret ?_
   exact fn_ret (rs := [.tmp 2]) rfl hF hS (vs := [_]) ⟨rfl, trivial⟩ zQ zQ (by rw [hc2, Jn.cnt_3])
  ·refine wp_skip ?_
   refine hK5 _ _ ?_
   clear hK5
   refine wp_seq_k ?_; intro K8 hK8
   refine reg hF hS (sq rfl (q_move rfl) <|
     sq rfl (q_addi rfl rfl (by omega)) <|
     sq rfl (q_quoi rfl rfl (by omega)) <|
     sq rfl (q_assign rfl) <|
     sq_end) ?_
   clear hF hS; intro a w hF hS
   refine hK8 _ _ ?_
   clear hK8
   refine wp_ret ?_
   exact fn_ret (rs := [.tmp 2]) rfl hF hS (vs := [_]) ⟨rfl, trivial⟩ zQ zQ (by rw [Jn.cnt_4 (by omega)])

set_option maxRecDepth 4000 in
set_option maxHeartbeats 2000000 in
theorem small_ct (n m : Nat) (hn : n < 9223372036854775808) (hm : m ≤ 8) (w : World) : Ct Tryz.prog 81 [vi (n : Int), vi (m : Int)] w (fun v zs hs => zs = [] ∧ hs = [.row v 5 1 m ((Jn.lb n m).map vb)]) := by
 refine fn_enter Tryz.func81 rfl Tryz.ntmps81 (Nat.le_of_ble_eq_true rfl) fun a hF hS => ?_
 refine wp_seq_k ?_; intro K1 hK1
 refine reg hF hS (sq rfl (q_assign rfl) <|
   sq_end) ?_
 clear hF hS; intro a w hF hS
 refine hK1 _ _ ?_
 clear hK1
 refine wp_seq_k ?_; intro K2 hK2
 refine reg hF hS (sq rfl (q_assign rfl) <|
   sq_end) ?_
 clear hF hS; intro a w hF hS
 replace hS := hS.nilRow 5 1
 refine hK2 _ _ ?_
 clear hK2
 refine wp_seq_k ?_; intro K3 hK3
 refine wp_seq_k ?_; intro K4 hK4
 refine reg hF hS (sq rfl (q_assign rfl) <|
   sq_end) ?_
 clear hF hS; intro a w hF hS
 refine hK4 _ _ ?_
 clear hK4
 refine wp_block ?_
 obtain ⟨hs0, hhs0, hS⟩ : ∃ h, h = _ ∧ St _ _ h _ := ⟨_, rfl, hS⟩
 refine wp_loopx (γ := Value × Nat) ((Value.slice none 0 0), 0) (fun (gg : Value × Nat) => match gg with | (u, k) => [(0, vi (Jn.dv n k : Int)), (5, u), (6, vi (k : Int))]) [(1, _)] (fun (gg : Value × Nat) => match gg with | (u, k) => (hs0.set 0 (.row u 5 1 k ((Jn.lb n k).map vb)))) (fun (gg : Value × Nat) => match gg with | (u, k) => k ≤ m) (fun (gg : Value × Nat) => match gg with | (u, k) => m - k) (hF.sub ⟨(by show some (vi _) = some (vi _); rw [Jn.dv_0]), rfl, rfl, rfl, trivial⟩) (by subst hhs0; exact hS) (by exact Nat.zero_le _) ?_
 clear hF hS; rintro ⟨u, k⟩ a w hfact hF hS
 subst hhs0; (try dsimp only at hfact); (try dsimp only at hF); (try dsimp only at hS)
 have hk0 := hfact
 replace hS : St _ [] [_] _ := hS
 have hdl := Jn.dv_le n k
 refine wp_seq_k ?_; intro K5 hK5
 refine wp_seq_k ?_; intro K6 hK6
 refine reg hF hS (sq rfl (q_move rfl) <|
   sq rfl (q_move rfl) <|
   sq rfl (q_lti rfl rfl) <|
   sq_end) ?_
 clear hF hS; intro a w hF hS
 refine hK6 _ _ ?_
 clear hK6
 refine wp_ifd hF rfl (fun hc1 => ?_) (fun hc1 => ?_)
 ·refine wp_skip ?_
  refine hK5 _ _ ?_
  clear hK5
  refine wp_seq_k ?_; intro K7 hK7
  refine wp_block ?_
  refine wp_seq_k ?_; intro K8 hK8
  refine regl ?_
  refine wpl_sq hF hS (sq rfl (q_move rfl) <|
    sq rfl (q_move rfl) <|
    sq rfl (q_remi rfl rfl (by omega)) <|
    sq rfl (q_cv_ib ty3 ty5 rfl) <|
    sq_end) ?_
  clear hF hS; intro a w hF hS
  refine wpl_ef hF hS rfl (ef_bsliceA ty81 ty5 rfl rfl oQ (by decide) rfl rfl) ?_
  clear hF hS; rintro v2 _ _ a w ⟨rfl, rfl⟩ hF hS
  replace hS : St _ [] [_, _] _ := hS
  refine wpl_ef hF hS rfl (ef_append ty81 ty5 1 rfl rfl rfl (src_row ty81 (k := 0) rfl oQ) bQ rfl (by decide)) ?_
  clear hF hS; rintro v4 _ _ a w ⟨rfl, rfl⟩ hF hS
  replace hS : St _ [] [_, _] _ := hS
  refine wpl_sq hF hS (sq rfl (q_assign rfl) <|
    sq_end) ?_
  clear hF hS; intro a w hF hS
  refine wpList_nil ?_
  refine hK8 _ _ ?_
  clear hK8
  refine reg hF hS (sq rfl (q_move rfl) <|
    sq rfl (q_quoi rfl rfl (by omega)) <|
    sq rfl (q_assign rfl) <|
    sq_end) ?_
  clear hF hS; intro a w hF hS
  refine hK7 _ _ ?_
  clear hK7
  refine reg hF hS (sq rfl (q_move rfl) <|
    sq rfl (q_addi rfl rfl (by omega)) <|
    sq rfl (q_assign rfl) <|
    sq_end) ?_
  clear hF hS; intro a w hF hS
  replace hS := hS.keep zQ (sQ.n)
  refine ⟨(v4, k + 1), ?_, ?_, hF.sub ⟨(by show some (vi _) = some (vi _); rw [← Jn.dv_step]), rfl, rfl, rfl, trivial⟩, ?_⟩
  ·(try dsimp only); omega
  ·omega
  ·rw [Jn.lb_step] at hS
   exact hS
 ·refine wp_exit ?_
  refine hK3 _ _ ?_
  clear hK3
  refine wp_seq_k ?_; intro K9 hK9
  refine reg hF hS (sq rfl (q_move rfl) <|
    sq rfl (q_assign rfl) <|
    sq_end) ?_
  clear hF hS; intro a w hF hS
  refine hK9 _ _ ?_
  clear hK9
  refine wp_ret ?_
  obtain rfl : m = k := by omega
  exact fn_ret (rs := [.tmp 4]) rfl hF hS (vs := [_]) ⟨rfl, trivial⟩ sQ sQ ⟨rfl, rfl⟩

set_option maxRecDepth 4000 in
set_option maxHeartbeats 2000000 in
theorem number_ct (s : List UInt8) (hs4 : s.length ≤ 4) (w : World) : Ct Tryz.prog 79 [vs s] w (fun r _ _ => r = vi (Jn.nb s : Int)) := by
 refine fn_enter Tryz.func79 rfl Tryz.ntmps79 (Nat.le_of_ble_eq_true rfl) fun a hF hS => ?_
 refine wp_seq_k ?_; intro K1 hK1
 refine reg hF hS (sq rfl (q_assign rfl) <|
   sq_end) ?_
 clear hF hS; intro a w hF hS
 refine hK1 _ _ ?_
 clear hK1
 refine wp_seq_k ?_; intro K2 hK2
 refine reg hF hS (sq rfl (q_assign rfl) <|
   sq_end) ?_
 clear hF hS; intro a w hF hS
 refine hK2 _ _ ?_
 clear hK2
 refine wp_seq_k ?_; intro K3 hK3
 refine wp_seq_k ?_; intro K4 hK4
 refine reg hF hS (sq rfl (q_move rfl) <|
   sq rfl (q_len_s ty9 rfl) <|
   sq rfl (q_subi rfl rfl (by omega)) <|
   sq rfl (q_assign rfl) <|
   sq_end) ?_
 clear hF hS; intro a w hF hS
 refine hK4 _ _ ?_
 clear hK4
 refine wp_block ?_
 obtain ⟨hs0, hhs0, hS⟩ : ∃ h, h = _ ∧ St _ _ h _ := ⟨_, rfl, hS⟩
 refine wp_loopx (γ := Nat) (s.length) (fun (k : Nat) => [(3, vi (Jn.nb (s.drop k) : Int)), (4, vi ((k : Int) - 1))]) [(0, _)] (fun (k : Nat) => hs0) (fun (k : Nat) => k ≤ s.length) (fun (k : Nat) => k) (hF.sub ⟨(by show some (vi _) = some (vi _); rw [Jn.nb_end]; rfl), rfl, rfl, trivial⟩) (by subst hhs0; exact hS) (by exact Nat.le_refl _) ?_
 clear hF hS; rintro k a w hfact hF hS
 subst hhs0; (try dsimp only at hfact); (try dsimp only at hF); (try dsimp only at hS)
 have hk0 := hfact
 replace hS : St _ [] [] _ := hS
 have hbd := Jn.nb_bd hs4 k
 have hcb := (s.getD ((k : Int) - 1).toNat 0).toNat_lt
 refine wp_seq_k ?_; intro K5 hK5
 refine wp_seq_k ?_; intro K6 hK6
 refine reg hF hS (sq rfl (q_move rfl) <|
   sq rfl (q_gei rfl rfl) <|
   sq_end) ?_
 clear hF hS; intro a w hF hS
 refine hK6 _ _ ?_
 clear hK6
 refine wp_ifd hF rfl (fun hc1 => ?_) (fun hc1 => ?_)
 ·refine wp_skip ?_
  refine hK5 _ _ ?_
  clear hK5
  refine wp_seq_k ?_; intro K7 hK7
  refine wp_block ?_
  refine reg hF hS (sq rfl (q_move rfl) <|
    sq rfl (q_muli rfl rfl (by omega)) <|
    sq rfl (q_move rfl) <|
    sq rfl (q_move rfl) <|
    sq rfl (q_idx_s ty9 rfl rfl (by omega)) <|
    sq rfl (q_cv_bi ty5 ty3 rfl) <|
    sq rfl (q_addi rfl rfl (by omega)) <|
    sq rfl (q_assign rfl) <|
    sq_end) ?_
  clear hF hS; intro a w hF hS
  refine hK7 _ _ ?_
  clear hK7
  refine reg hF hS (sq rfl (q_move rfl) <|
    sq rfl (q_subi rfl rfl (by omega)) <|
    sq rfl (q_assign rfl) <|
    sq_end) ?_
  clear hF hS; intro a w hF hS
  refine ⟨(k - 1), ?_, ?_, hF.sub ⟨(by show some (vi _) = some (vi _); rw [Jn.nb_drop (k := k - 1) (by omega), show k - 1 + 1 = k by omega, show ((k : Int) - 1).toNat = k - 1 by omega]; congr 2), (by show some (vi _) = some (vi _); congr 2; omega), rfl, trivial⟩, ?_⟩
  ·(try dsimp only); omega
  ·omega
  ·exact hS
 ·refine wp_exit ?_
  refine hK3 _ _ ?_
  clear hK3
  refine wp_seq_k ?_; intro K8 hK8
  refine reg hF hS (sq rfl (q_move rfl) <|
    sq rfl (q_assign rfl) <|
    sq_end) ?_
  clear hF hS; intro a w hF hS
  refine hK8 _ _ ?_
  clear hK8
  refine wp_ret ?_
  exact fn_ret (rs := [.tmp 2]) rfl hF hS (vs := [_]) ⟨rfl, trivial⟩ zQ zQ (by rw [show k = 0 by omega, List.drop_zero])

set_option maxRecDepth 4000 in
set_option maxHeartbeats 2000000 in
theorem beq_ct (v u : Value) (xs ys : List UInt8) (w : World) (hb : Sl encB (ph w) v xs) (hb2 : Sl encB (ph w) u ys) : Ct Tryz.prog 77 [v, u] w (fun r _ _ => r = .bool (decide (xs = ys))) := by
 refine fn_enter Tryz.func77 rfl Tryz.ntmps77 (Nat.le_of_ble_eq_true rfl) fun a hF hS => ?_
 have hbl := hb.1
 have hbl2 := hb2.1
 refine wp_seq_k ?_; intro K1 hK1
 refine reg hF hS (sq rfl (q_assign rfl) <|
   sq_end) ?_
 clear hF hS; intro a w hF hS
 refine hK1 _ _ ?_
 clear hK1
 refine wp_seq_k ?_; intro K2 hK2
 refine reg hF hS (sq rfl (q_move rfl) <|
   sq rfl (q_b2s_sl ty81 ty9 ty5 hb zin0 rfl) <|
   sq rfl (q_move rfl) <|
   sq rfl (q_b2s_sl ty81 ty9 ty5 hb2 zin0 rfl) <|
   sq rfl (q_eqs rfl rfl) <|
   sq rfl (q_assign rfl) <|
   sq_end) ?_
 clear hF hS; intro a w hF hS
 refine hK2 _ _ ?_
 clear hK2
 refine wp_ret ?_
 exact fn_ret (rs := [.tmp 4]) rfl hF hS (vs := [_]) ⟨rfl, trivial⟩ zQ zQ (rfl)

set_option maxRecDepth 4000 in
set_option maxHeartbeats 2000000 in
theorem samet_ct (v1 v2 : Value) (xa xb : List (List UInt8)) (w : World) (hb1 : Sl Go.Fw.encS (ph w) v1 xa) (hb2 : Sl Go.Fw.encS (ph w) v2 xb) : Ct Tryz.prog 20 [v1, v2] w (fun r _ _ => r = .bool (decide (xa = xb))) := by
 refine fn_enter Tryz.func20 rfl Tryz.ntmps20 (Nat.le_of_ble_eq_true rfl) fun a hF hS => ?_
 have hla := hb1.1
 have hlb := hb2.1
 refine wp_seq_k ?_; intro K1 hK1
 refine reg hF hS (sq rfl (q_assign rfl) <|
   sq_end) ?_
 clear hF hS; intro a w hF hS
 refine hK1 _ _ ?_
 clear hK1
 refine wp_seq_k ?_; intro K2 hK2
 refine wp_seq_k ?_; intro K3 hK3
 refine reg hF hS (sq rfl (q_move rfl) <|
   sq rfl (q_len_sl ty22 hb1 rfl) <|
   sq rfl (q_move rfl) <|
   sq rfl (q_len_sl ty22 hb2 rfl) <|
   sq rfl (q_nei rfl rfl) <|
   sq_end) ?_
 clear hF hS; intro a w hF hS
 refine hK3 _ _ ?_
 clear hK3
 refine wp_ifn hF rfl (fun hc1 => ?_) (fun hc1 => ?_)
 ·refine wp_seq_k ?_; intro K4 hK4
  refine reg hF hS (sq rfl (q_assign rfl) <|
    sq_end) ?_
  clear hF hS; intro a w hF hS
  refine hK4 _ _ ?_
  clear hK4
  refine wp_ret ?_
  exact fn_ret (rs := [.tmp 4]) rfl hF hS (vs := [_]) ⟨rfl, trivial⟩ zQ zQ (Ls.same_len hc1)
 ·refine wp_skip ?_
  refine hK2 _ _ ?_
  clear hK2
  refine wp_seq_k ?_; intro K5 hK5
  refine wp_seq_k ?_; intro K6 hK6
  refine reg hF hS (sq rfl (q_assign rfl) <|
    sq_end) ?_
  clear hF hS; intro a w hF hS
  refine hK6 _ _ ?_
  clear hK6
  refine wp_block ?_
  obtain ⟨hs0, hhs0, hS⟩ : ∃ h, h = _ ∧ St _ _ h _ := ⟨_, rfl, hS⟩
  refine wp_loopx (γ := Int) (0) (fun (i : Int) => [(5, vi i)]) [(0, _), (1, _)] (fun (i : Int) => hs0) (fun (i : Int) => 0 ≤ i ∧ i ≤ xa.length ∧ xa.take i.toNat = xb.take i.toNat) (fun (i : Int) => (xa.length - i).toNat) (hF.sub ⟨rfl, rfl, rfl, trivial⟩) (by subst hhs0; exact hS) (by exact ⟨Int.le_refl _, by omega, rfl⟩) ?_
  clear hF hS; rintro i a w hfact hF hS
  subst hhs0; (try dsimp only at hfact); (try dsimp only at hF); (try dsimp only at hS)
  obtain ⟨hi0, hi1, htk⟩ := hfact
  replace hS : St _ [] [] _ := hS
  refine wp_seq_k ?_; intro K7 hK7
  refine wp_seq_k ?_; intro K8 hK8
  refine reg hF hS (sq rfl (q_move rfl) <|
    sq rfl (q_move rfl) <|
    sq rfl (q_len_sl ty22 hb1 rfl) <|
    sq rfl (q_lti rfl rfl) <|
    sq_end) ?_
  clear hF hS; intro a w hF hS
  refine hK8 _ _ ?_
  clear hK8
  refine wp_ifd hF rfl (fun hc2 => ?_) (fun hc2 => ?_)
  ·have hi2 : i < xb.length := by omega
   refine wp_skip ?_
   refine hK7 _ _ ?_
   clear hK7
   refine wp_seq_k ?_; intro K9 hK9
   refine wp_block ?_
   refine wp_seq_k ?_; intro K10 hK10
   refine regd mixed kQ hF hS (sq rfl (q_move rfl) <|
     sq rfl (q_move rfl) <|
     sq rfl (q_idx_sl ty22 ty9 hb1 rfl rfl (by omega)) <|
     sq rfl (q_ld_S ty9 hb1 zin0 rfl rfl (by omega)) <|
     sq rfl (q_move rfl) <|
     sq rfl (q_move rfl) <|
     sq rfl (q_idx_sl ty22 ty9 hb2 rfl rfl (by omega)) <|
     sq rfl (q_ld_S ty9 hb2 zin0 rfl rfl (by omega)) <|
     sq rfl (q_nes rfl rfl) <|
     sq_end) ?_
   clear hF hS; intro a w hF hS
   refine hK10 _ _ ?_
   clear hK10
   refine wp_ifn hF rfl (fun hc3 => ?_) (fun hc3 => ?_)
   ·refine wp_seq_k ?_; intro K11 hK11
    refine reg hF hS (sq rfl (q_assign rfl) <|
      sq_end) ?_
    clear hF hS; intro a w hF hS
    refine hK11 _ _ ?_
    clear hK11
    refine wp_ret ?_
    exact fn_ret (rs := [.tmp 4]) rfl hF hS (vs := [_]) ⟨rfl, trivial⟩ zQ zQ (Ls.same_ne [] hc3)
   ·refine wp_skip ?_
    refine hK9 _ _ ?_
    clear hK9
    refine reg hF hS (sq rfl (q_move rfl) <|
      sq rfl (q_addi rfl rfl (by omega)) <|
      sq rfl (q_assign rfl) <|
      sq_end) ?_
    clear hF hS; intro a w hF hS
    refine ⟨(i + 1), ?_, ?_, hF.sub ⟨rfl, rfl, rfl, trivial⟩, ?_⟩
    ·(try dsimp only); omega
    ·refine ⟨by omega, by omega, Ls.same_step [] hi0 (by omega) hc1 hc3 htk⟩
    ·exact hS
  ·refine wp_exit ?_
   refine hK5 _ _ ?_
   clear hK5
   refine wp_seq_k ?_; intro K12 hK12
   refine reg hF hS (sq rfl (q_assign rfl) <|
     sq_end) ?_
   clear hF hS; intro a w hF hS
   refine hK12 _ _ ?_
   clear hK12
   refine wp_ret ?_
   exact fn_ret (rs := [.tmp 4]) rfl hF hS (vs := [_]) ⟨rfl, trivial⟩ zQ zQ (Ls.same_eq hc1 hc2 htk)

end Go.Proofs.YtibbhobfdbfkkaaGreatDoor
end

section
namespace Go.Proofs.YtibbhobfdbfkkaaGreatDoor
open Go.Fw
theorem fn95 : FnOk Tryz.prog 95 := ⟨_, Tryz.func95, rfl, by kernel_rfl⟩
theorem fn103 : FnOk Tryz.prog 103 := ⟨_, Tryz.func103, rfl, by kernel_rfl⟩

attribute [local irreducible] Sha.sum

set_option maxRecDepth 4000 in
set_option maxHeartbeats 2000000 in
theorem put_ct (b : Nat) (bt : TypeId) (off m cc n : Nat) (xs : List UInt8) (hm : m ≤ 8) (hn : n < 9223372036854775808) (hx : off + m ≤ xs.length) (w0 : World) (zsr : List PH) : Cx Tryz.prog 91 [.slice (some ⟨b, off, none⟩) m cc, vi (n : Int)] w0 zsr [.blk b bt (xs.map vb)] (fun r zs1 hs1 => r = .tuple #[] ∧ zs1 = [] ∧ hs1 = [.blk b bt ((Jn.pw xs off n m).map vb)]) := by
 refine fn_enterx Tryz.func91 rfl Tryz.ntmps91 (Nat.le_of_ble_eq_true rfl) fun hsr a w hF hS => ?_
 replace hS : St _ (_) (_ :: _) _ := hS
 refine wp_seq_k ?_; intro K1 hK1
 refine reg hF hS (sq rfl (q_move rfl) <|
   sq rfl (q_len_slv ty81 rfl) <|
   sq rfl (q_move rfl) <|
   sq_end) ?_
 clear hF hS; intro a w hF hS
 refine hK1 _ _ ?_
 clear hK1
 refine wp_block ?_
 obtain ⟨hs0, hhs0, hS⟩ : ∃ h, h = _ ∧ St _ _ h _ := ⟨_, rfl, hS⟩
 refine wp_loopx (γ := Nat) (0) (fun (k : Nat) => [(7, vi (k : Int)), (1, vi (Jn.dv n k : Int))]) [(0, _), (6, _)] (fun (k : Nat) => (hs0.set 0 (.blk b bt ((Jn.pw xs off n k).map vb)))) (fun (k : Nat) => k ≤ m) (fun (k : Nat) => m - k) (hF.sub ⟨rfl, (by show some (vi _) = some (vi _); rw [Jn.dv_0]), rfl, rfl, trivial⟩) (by subst hhs0; (try dsimp only); rw [Jn.pw_0]; exact hS) (by exact Nat.zero_le _) ?_
 clear hF hS; rintro k a w hfact hF hS
 subst hhs0; (try dsimp only at hfact); (try dsimp only at hF); (try dsimp only at hS)
 have hk0 := hfact
 replace hS : St _ (_) (_ :: _) _ := hS
 have hdl := Jn.dv_le n k
 refine wp_seq_k ?_; intro K2 hK2
 refine reg hF hS (sq rfl (q_lti rfl rfl) <|
   sq_end) ?_
 clear hF hS; intro a w hF hS
 refine hK2 _ _ ?_
 clear hK2
 refine wp_seq_k ?_; intro K3 hK3
 refine wp_ifd hF rfl (fun hc1 => ?_) (fun hc1 => ?_)
 ·refine wp_skip ?_
  refine hK3 _ _ ?_
  clear hK3
  refine wp_seq_k ?_; intro K4 hK4
  refine wp_block ?_
  refine wp_seq_k ?_; intro K5 hK5
  refine reg hF hS (sq rfl (q_move rfl) <|
    sq rfl (q_assign rfl) <|
    sq_end) ?_
  clear hF hS; intro a w hF hS
  refine hK5 _ _ ?_
  clear hK5
  refine wp_seq_k ?_; intro K6 hK6
  refine regl ?_
  refine wpl_sq hF hS (sq rfl (q_move rfl) <|
    sq rfl (q_move rfl) <|
    sq rfl (q_move rfl) <|
    sq rfl (q_cv_ib ty3 ty5 rfl) <|
    sq rfl (q_idx_slb ty81 ty5 rfl rfl (by omega)) <|
    sq_end) ?_
  clear hF hS; intro a w hF hS
  refine wpl_ef hF hS rfl (ef_store1 ty5 0 rfl rfl rfl rfl (by rw [List.length_map, Jn.pw_len (by omega)]; omega)) ?_
  clear hF hS; rintro _ _ _ a w ⟨rfl, rfl, rfl⟩ hF hS
  replace hS : St _ (_) (_ :: _) _ := hS
  refine wpList_nil ?_
  refine hK6 _ _ ?_
  clear hK6
  refine reg hF hS (sq rfl (q_move rfl) <|
    sq rfl (q_shri rfl rfl (by omega)) <|
    sq rfl (q_assign rfl) <|
    sq_end) ?_
  clear hF hS; intro a w hF hS
  refine hK4 _ _ ?_
  clear hK4
  refine reg hF hS (sq rfl (q_addi rfl rfl (by omega)) <|
    sq rfl (q_move rfl) <|
    sq_end) ?_
  clear hF hS; intro a w hF hS
  refine ⟨(k + 1), ?_, ?_, hF.sub ⟨rfl, (by show some (vi _) = some (vi _); rw [← Jn.dv_step]; rfl), rfl, rfl, trivial⟩, ?_⟩
  ·(try dsimp only); omega
  ·omega
  ·rw [show ((k : Int)).toNat = k from Int.toNat_natCast k, ← List.map_set, Jn.pw_step (by omega)] at hS
   exact hS
 ·refine wp_exit ?_
  -- falls off the end
  obtain rfl : m = k := by omega
  exact fn_retx (rs := []) rfl hF hS (vs := []) trivial [] [_] sQ sQ ⟨rfl, rfl, rfl⟩

set_option maxRecDepth 4000 in
set_option maxHeartbeats 2000000 in
theorem backward_ct (v : Value) (hv : v.oneCell' = true) (w : World) : Ct Tryz.prog 95 [v] w (fun r zs hs => ∃ b1, r = .func (.func 103) (List.nil : List Value).toArray [Value.pointer (some ⟨b1, 0, none⟩)].toArray ∧ zs = [] ∧ hs = [.blk b1 81 [v]]) := by
 refine fn_enter Tryz.func95 rfl Tryz.ntmps95 (Nat.le_of_ble_eq_true rfl) fun a hF hS => ?_
 refine wp_seq_k ?_; intro K1 hK1
 refine regl ?_
 refine wpl_ef hF hS rfl (ef_box1 rfl hv) ?_
 clear hF hS; rintro _ _ _ a w ⟨b1, rfl, rfl, rfl⟩ hF hS
 refine wpl_sq hF hS (sq rfl (q_assign rfl) <|
   sq_end) ?_
 clear hF hS; intro a w hF hS
 refine wpList_nil ?_
 refine hK1 _ _ ?_
 clear hK1
 refine wp_seq_k ?_; intro K2 hK2
 refine reg hF hS (sq rfl (q_mkf rfl rfl) <|
   sq rfl (q_assign rfl) <|
   sq_end) ?_
 clear hF hS; intro a w hF hS
 refine hK2 _ _ ?_
 clear hK2
 refine wp_ret ?_
 exact fn_ret (rs := [.tmp 2]) rfl hF hS (vs := [_]) ⟨rfl, trivial⟩ sQ sQ ⟨_, rfl, rfl, rfl⟩

set_option maxRecDepth 4000 in
set_option maxHeartbeats 2000000 in
theorem bwd1_ct (b1 : Nat) (v : Value) (xs : List UInt8) (Y : Value) (z : PH) (w0 : World) (zsr : List PH) (hsr : List Res) (inv : Nat → Res → Prop) (ra : Res) (hz : ZIn w0 zsr z) (hb : Sl encB z v xs) (h0 : inv 0 ra) (hY : ∀ k r, k < xs.length → inv k r → YdL Tryz.prog Y (Jn.bwV xs k) (St w0 zsr (.blk b1 81 [v] :: r :: hsr)) fun w' => ∃ r', inv (k + 1) r' ∧ St w0 zsr (.blk b1 81 [v] :: r' :: hsr) w') : CxH Tryz.prog 103 [Y, Value.pointer (some ⟨b1, 0, none⟩)] w0 zsr [.blk b1 81 [v], ra] hsr (fun _ zs1 hs1 => zs1 = [] ∧ ∃ r : Res, hs1 = [.blk b1 81 [v], r] ∧ inv xs.length r) := by
 refine fn_enterh Tryz.func103 rfl Tryz.ntmps103 (Nat.le_of_ble_eq_true rfl) fun a w hF hS => ?_
 replace hS : St _ (_) (_ :: _ :: _) _ := hS
 have hbl := hb.1
 refine wp_seq_k ?_; intro K1 hK1
 refine reg hF hS (sq rfl (q_ld_blk1 ty81 0 rfl rfl rfl rfl) <|
   sq rfl (q_len_sl ty81 hb rfl) <|
   sq rfl (q_subi rfl rfl (by omega)) <|
   sq rfl (q_assign rfl) <|
   sq_end) ?_
 clear hF hS; intro a w hF hS
 refine hK1 _ _ ?_
 clear hK1
 refine wp_block ?_
 obtain ⟨hs0, hhs0, hS⟩ : ∃ h, h = _ ∧ St _ _ h _ := ⟨_, rfl, hS⟩
 refine wp_loopx (γ := Res × Nat) (ra, 0) (fun (gg : Res × Nat) => match gg with | (rr, k) => [(3, vi ((xs.length : Int) - 1 - k))]) [(0, _), (1, _)] (fun (gg : Res × Nat) => match gg with | (rr, k) => (hs0.set 1 (rr))) (fun (gg : Res × Nat) => match gg with | (rr, k) => k ≤ xs.length ∧ inv k rr) (fun (gg : Res × Nat) => match gg with | (rr, k) => xs.length - k) (hF.sub ⟨(by show some (vi _) = some (vi _); congr 2; omega), rfl, rfl, trivial⟩) (by subst hhs0; exact hS) (by exact ⟨Nat.zero_le _, h0⟩) ?_
 clear hF hS; rintro ⟨rr, k⟩ a w hfact hF hS
 subst hhs0; (try dsimp only at hfact); (try dsimp only at hF); (try dsimp only at hS)
 obtain ⟨hk0, hin⟩ := hfact
 replace hS : St _ (_) (_ :: _ :: _) _ := hS
 refine wp_seq_k ?_; intro K2 hK2
 refine wp_seq_k ?_; intro K3 hK3
 refine reg hF hS (sq rfl (q_move rfl) <|
   sq rfl (q_gei rfl rfl) <|
   sq_end) ?_
 clear hF hS; intro a w hF hS
 refine hK3 _ _ ?_
 clear hK3
 refine wp_ifd hF rfl (fun hc1 => ?_) (fun hc1 => ?_)
 ·refine wp_skip ?_
  refine hK2 _ _ ?_
  clear hK2
  refine wp_seq_k ?_; intro K4 hK4
  refine wp_block ?_
  refine wp_seq_k ?_; intro K5 hK5
  refine regY 6 rfl ?_
  refine wpl_sq hF hS (sq rfl (q_move rfl) <|
    sq rfl (q_move rfl) <|
    sq rfl (q_ld_blk1 ty81 0 rfl rfl rfl rfl) <|
    sq rfl (q_move rfl) <|
    sq rfl (q_idx_sl ty81 ty5 hb rfl rfl (by omega)) <|
    sq rfl (q_ld_B ty5 hb hz rfl rfl (by omega)) <|
    sq_end) ?_
  clear hF hS; intro a w hF hS
  refine listR ?_
  ·skip
   have hyd := hY k rr (by omega) hin
   refine ycallL (ys := [_, _]) (by rfl) rfl hF hS rfl rfl hyd ?_
   clear hF hS; rintro a w hF ⟨r2, hin2, hS⟩
   refine yseg rfl hF hS (sq rfl (q_not rfl) <| sq_end) ?_
   clear hF hS; intro a w hF hS
   refine wpListIn_nil ?_
   refine hK5 _ _ ?_
   clear hK5
   refine wp_if hF rfl (fun h => absurd h (by simp)) (fun _ => ?_)
   refine wp_skip ?_
   refine hK4 _ _ ?_
   clear hK4
   refine reg hF hS (sq rfl (q_move rfl) <|
     sq rfl (q_subi rfl rfl (by omega)) <|
     sq rfl (q_assign rfl) <|
     sq_end) ?_
   clear hF hS; intro a w hF hS
   refine ⟨(r2, k + 1), ?_, ?_, hF.sub ⟨(by show some (vi _) = some (vi _); congr 2; omega), rfl, rfl, trivial⟩, ?_⟩
   ·(try dsimp only); omega
   ·exact ⟨by omega, hin2⟩
   ·exact hS
 ·obtain rfl : k = xs.length := by omega
  refine wp_exit ?_
  -- falls off the end
  exact fn_fallx rfl hF hS [] [_, _] sQ sQ ⟨rfl, _, rfl, hin⟩

set_option maxRecDepth 4000 in
set_option maxHeartbeats 2000000 in
theorem get_ct (v : Value) (xs : List UInt8) (hx : xs.length ≤ 4) (w : World) (hb : Sl encB (ph w) v xs) : Ct Tryz.prog 76 [v] w (fun r _ _ => r = vi (Jn.nb xs : Int)) := by
 refine fn_enterM Tryz.func76 rfl Tryz.ntmps76 (Nat.le_of_ble_eq_true rfl) fun a hF hS => ?_
 have hbl := hb.1
 refine wp_seq_k ?_; intro K1 hK1
 refine reg hF hS (sq rfl (q_assign rfl) <|
   sq_end) ?_
 clear hF hS; intro a w hF hS
 refine hK1 _ _ ?_
 clear hK1
 refine wp_seq_k ?_; intro K2 hK2
 refine regl ?_
 refine wpl_ef hF hS rfl (ef_alloc1 ty3 (by rfl)) ?_
 clear hF hS; rintro _ _ _ a w ⟨b1, rfl, rfl, rfl⟩ hF hS
 refine wpl_ef hF hS rfl (ef_store1 ty3 0 rfl rfl rfl rfl (by simp)) ?_
 clear hF hS; rintro _ _ _ a w ⟨rfl, rfl, rfl⟩ hF hS
 (try simp only [List.set_cons_zero, List.set_cons_succ] at hS)
 replace hS : St _ [] [_] _ := hS
 refine wpList_nil ?_
 refine hK2 _ _ ?_
 clear hK2
 refine wp_seq_k ?_; intro K3 hK3
 refine wp_seq_k ?_; intro K4 hK4
 refine regl ?_
 refine wpl_sq hF hS (sq rfl (q_move rfl) <|
   sq_end) ?_
 clear hF hS; intro a w hF hS
 refine wpl_ef hF hS rfl (ef_call fn95 rfl (fun w hS => backward_ct _ (sl_one' hb) w )) ?_
 clear hF hS; rintro _ _ _ a w ⟨_, _, rfl, rfl, ⟨e1, rfl, rfl, rfl⟩⟩ hF hS
 replace hS : St _ [] [_, _] _ := hS
 refine wpList_nil ?_
 refine hK4 _ _ ?_
 clear hK4
 refine wp_block ?_
 replace hS : St _ [] [_, _] _ := hS
 obtain ⟨hs0, hhs0, hS⟩ : ∃ h, h = _ ∧ St _ _ h _ := ⟨_, rfl, hS⟩
 obtain ⟨L0, hL0, hF⟩ : ∃ l, l = _ ∧ Fr _ l _ := ⟨_, rfl, hF⟩
 refine wp_rangeH (ps := [8, 9]) (γ := Res) (ξ := Unit) (fun r => hs0.set 1 r) (fun (k : Nat) (r : Res) => r = .blk b1 3 [vi (Jn.nb (xs.drop (xs.length - k)) : Int)]) (xs.length) (fun k => Jn.bwV xs k) (.blk b1 3 [vi 0]) (fun k r x => (5, vb (xs.getD ((xs.length : Int) - 1 - k).toNat 0)) :: (9, vb (xs.getD ((xs.length : Int) - 1 - k).toNat 0)) :: (8, vi ((xs.length : Int) - 1 - k)) :: L0) (fun k r x => hs0.set 1 r) hF (by subst hhs0; exact hS) (by subst hL0; rfl) rfl (fun _ => rfl) (fn103) (by rw [Nat.sub_zero, Jn.nb_end]; rfl) (fun ro m8 zB zD k9 r9 a w hk9 hi9 hF hS => ?_) (fun Y zs1 hzz hY w hS => ?_) (fun l9 m9 zB zD k9 r9 x9 a w hk9 hi9 hF hS => ?_) (fun I D zD a w r9 hno hI hD hi9 hF hS => ?_)
 ·subst hhs0 hL0
  (try dsimp only [argsL] at hF); (try dsimp only [List.set_cons_zero, List.set_cons_succ] at hS)
  replace hS : St _ [_, _] [_, _] _ := hS
  subst hi9
  have hbd9 := Jn.nb_bd hx (xs.length - k9)
  have hsh9 : (Jn.nb (xs.drop (xs.length - k9)) : Int) * 2 ^ (min (Int.toNat 8) 64) = (Jn.nb (xs.drop (xs.length - k9)) : Int) * 256 := rfl
  replace hS : St _ [_, _] [_, _] _ := hS
  refine regR (by rfl) hF hS (sq rfl (q_assign rfl) <|
    sq_end) ?_
  clear hF hS; intro a w hF hS
  exact ⟨rfl, (), hF, hS⟩
 ·subst hhs0 hL0
  exact CxH.full1 (bwd1_ct e1 _ xs Y _ _ zs1 _ (fun k r => r = .blk b1 3 [vi (Jn.nb (xs.drop (xs.length - k)) : Int)]) _ zin0 hb (by rw [Nat.sub_zero, Jn.nb_end]; rfl) hY) w hS
 ·subst hhs0 hL0
  (try dsimp only [argsL] at hF); (try dsimp only [List.set_cons_zero, List.set_cons_succ] at hS)
  replace hS : St _ [_, _] [_, _] _ := hS
  subst hi9
  have hbd9 := Jn.nb_bd hx (xs.length - k9)
  have hsh9 : (Jn.nb (xs.drop (xs.length - k9)) : Int) * 2 ^ (min (Int.toNat 8) 64) = (Jn.nb (xs.drop (xs.length - k9)) : Int) * 256 := rfl
  replace hS : St _ [_, _] [_, _] _ := hS
  refine wpIn_block ?_
  refine reglR (by rfl) ?_
  refine wpl_sq hF hS (sq rfl (q_ld_blk1 ty3 1 rfl rfl rfl rfl) <|
    sq rfl (q_shli rfl rfl (by omega) (by omega)) <|
    sq rfl (q_move rfl) <|
    sq rfl (q_cv_bi ty5 ty3 rfl) <|
    sq rfl (q_ori rfl rfl) <|
    sq_end) ?_
  clear hF hS; intro a w hF hS
  refine wpl_ef hF hS rfl (ef_store1 ty3 1 rfl rfl rfl rfl (by simp)) ?_
  clear hF hS; rintro _ _ _ a w ⟨rfl, rfl, rfl⟩ hF hS
  (try simp only [List.set_cons_zero, List.set_cons_succ] at hS)
  replace hS : St _ [_, _] [_, _] _ := hS
  refine listR ?_
  rw [Jn.ior_byte _ _ (Jn.nb_bd hx _), ← Jn.nb_at hk9] at hS
  exact ⟨rfl, _, rfl, hS⟩
 subst hhs0 hL0
 (try dsimp only [argsL] at hF); (try dsimp only [List.set_cons_zero, List.set_cons_succ] at hS)
 replace hS : St _ [_] [_, _] _ := hS
 subst hi9
 replace hS : St _ [_] [_, _] _ := hS
 refine hK3 _ _ ?_
 clear hK3
 refine wp_seq_k ?_; intro K5 hK5
 refine reg hF hS (sq rfl (q_ld_blk1 ty3 1 rfl rfl rfl rfl) <|
   sq rfl (q_assign rfl) <|
   sq_end) ?_
 clear hF hS; intro a w hF hS
 refine hK5 _ _ ?_
 clear hK5
 refine wp_ret ?_
 rw [Nat.sub_self, List.drop_zero] at hF
 exact fn_retG [] hI hD (by simp) (by simp) (by simp) (rs := [.tmp 2]) rfl hF hS (vs := [_]) ⟨rfl, trivial⟩ (fun W hS => ⟨[], [], hS.keep zQ zQ, rfl⟩)
end Go.Proofs.YtibbhobfdbfkkaaGreatDoor
end

section
namespace Go.Proofs.YtibbhobfdbfkkaaGreatDoor
open Go.Fw
theorem ty94 : Tf Tryz.prog 94 (.struct #[⟨ "number", 3, 0, false, "", "culprit/journal", 0⟩, ⟨ "part", 3, 1, false, "", "culprit/journal", 8⟩, ⟨ "left", 3, 2, false, "", "culprit/journal", 16⟩, ⟨ "payload", 9, 3, false, "", "culprit/journal", 24⟩, ⟨ "ok", 4, 4, false, "", "culprit/journal", 40⟩]) 5 48 (.agg ([Value.int .i64 0, Value.int .i64 0, Value.int .i64 0] ++ [Value.string ⟨(List.nil : List UInt8).toArray⟩] ++ [Value.bool false]).toArray) := ⟨Tryz.underlying94, by kernel_rfl⟩
theorem ty96 : Tf Tryz.prog 96 (.array 64 5) 64 64 (.agg (List.replicate 64 (Value.int .u8 0)).toArray) := ⟨Tryz.underlying96, by kernel_rfl⟩
theorem ty102 : Tf Tryz.prog 102 (.struct #[⟨ "Number", 3, 0, false, "", "", 0⟩, ⟨ "Part", 3, 1, false, "", "", 8⟩, ⟨ "Left", 3, 2, false, "", "", 16⟩, ⟨ "Payload", 9, 3, false, "", "", 24⟩, ⟨ "Ok", 4, 4, false, "", "", 40⟩]) 5 48 (.agg ([Value.int .i64 0, Value.int .i64 0, Value.int .i64 0] ++ [Value.string ⟨(List.nil : List UInt8).toArray⟩] ++ [Value.bool false]).toArray) := ⟨Tryz.underlying102, by kernel_rfl⟩
theorem fn49 : FnOk Tryz.prog 49 := ⟨_, Tryz.func49, rfl, by kernel_rfl⟩
theorem fn75 : FnOk Tryz.prog 75 := ⟨_, Tryz.func75, rfl, by kernel_rfl⟩
theorem fn76 : FnOk Tryz.prog 76 := ⟨_, Tryz.func76, rfl, by kernel_rfl⟩
theorem fn77 : FnOk Tryz.prog 77 := ⟨_, Tryz.func77, rfl, by kernel_rfl⟩
theorem fn79 : FnOk Tryz.prog 79 := ⟨_, Tryz.func79, rfl, by kernel_rfl⟩
theorem fn80 : FnOk Tryz.prog 80 := ⟨_, Tryz.func80, rfl, by kernel_rfl⟩
theorem fn96 : FnOk Tryz.prog 96 := ⟨_, Tryz.func96, rfl, by kernel_rfl⟩

attribute [local irreducible] Sha.sum Jn.good

set_option maxRecDepth 4000 in
set_option maxHeartbeats 2000000 in
theorem checked_ct (v : Value) (xs : List UInt8) (hx : xs.length = 56) (w : World) (hb : Sl encB (ph w) v xs) {fz0 : Nat × Nat} {bt0 : TypeId} (hg0 : w.heap[0]? = some (.cells (Sha.kc.map vw).toArray bt0 fz0)) : Ct Tryz.prog 80 [v] w (fun r _ _ => r = vs (Jn.chk xs)) := by
 refine fn_enter Tryz.func80 rfl Tryz.ntmps80 (Nat.le_of_ble_eq_true rfl) fun a hF hS => ?_
 have hbl := hb.1
 have hsl := Sha.sum_len xs
 refine wp_seq_k ?_; intro K1 hK1
 refine reg hF hS (sq rfl (q_assign rfl) <|
   sq_end) ?_
 clear hF hS; intro a w hF hS
 refine hK1 _ _ ?_
 clear hK1
 refine wp_seq_k ?_; intro K2 hK2
 refine regl ?_
 refine wpl_sq hF hS (sq rfl (q_move rfl) <|
   sq rfl (q_call fn96 rfl (fun w hS => rsum_ct _ _ (by first | assumption | omega) w (Sl.mono (hS.le zin0) hb) (hS.ext _ _ hg0)) (fun _ _ _ h => h)) <|
   sq_end) ?_
 clear hF hS; intro a w hF hS
 refine wpl_ef hF hS rfl (ef_allocA ty125) ?_
 clear hF hS; rintro _ _ _ a w ⟨b1, rfl, rfl, rfl⟩ hF hS
 rw [show List.replicate 32 (Value.int .u8 0) = (List.replicate 32 (0 : UInt8)).map vb from by rw [List.map_replicate] <;> rfl] at hS
 refine wpl_ef hF hS rfl (ef_storeW ty125 0 rfl rfl rfl rfl bQ oQ bQ) ?_
 clear hF hS; rintro _ _ _ a w ⟨rfl, rfl, rfl⟩ hF hS
 replace hS : St _ [] [_] _ := hS
 refine wpList_nil ?_
 refine hK2 _ _ ?_
 clear hK2
 refine wp_seq_k ?_; intro K3 hK3
 refine regd mixed kQ hF hS (sq rfl (q_move rfl) <|
   sq rfl (q_b2s_sl ty81 ty9 ty5 hb zin0 rfl) <|
   sq rfl (q_sla_hi ty125 ty5 rfl rfl (by omega)) <|
   sq rfl (q_b2s_blkO ty81 ty9 ty5 0 rfl rfl (by first | omega | (simp; omega))) <|
   sq rfl (q_adds rfl rfl bQ) <|
   sq rfl (q_assign rfl) <|
   sq_end) ?_
 clear hF hS; intro a w hF hS
 refine hK3 _ _ ?_
 clear hK3
 refine wp_ret ?_
 exact fn_ret (rs := [.tmp 2]) rfl hF hS (vs := [_]) ⟨rfl, trivial⟩ zQ zQ (rfl)

set_option maxRecDepth 4000 in
set_option maxHeartbeats 2000000 in
theorem unpack_ct (s : List UInt8) (w : World) {fz0 : Nat × Nat} {bt0 : TypeId} (hg0 : w.heap[2]? = some (.cells (Sha.kc.map vw).toArray bt0 fz0)) : Ct Tryz.prog 49 [vs s] w (fun r _ _ => r = Jn.pV (Jn.unp s)) := by
 refine fn_enter Tryz.func49 rfl Tryz.ntmps49 (Nat.le_of_ble_eq_true rfl) fun a hF hS => ?_
 have hsl : ∀ t, (Sha.sum t).length = 32 := Sha.sum_len
 refine wp_seq_k ?_; intro K1 hK1
 refine regl ?_
 refine wpl_ef hF hS rfl (ef_allocA ty94) ?_
 clear hF hS; rintro _ _ _ a w ⟨b1, rfl, rfl, rfl⟩ hF hS
 refine wpList_nil ?_
 refine hK1 _ _ ?_
 clear hK1
 refine wp_seq_k ?_; intro K2 hK2
 refine wp_seq_k ?_; intro K3 hK3
 refine reg hF hS (sq rfl (q_move rfl) <|
   sq rfl (q_len_s ty9 rfl) <|
   sq rfl (q_nei rfl rfl) <|
   sq_end) ?_
 clear hF hS; intro a w hF hS
 refine hK3 _ _ ?_
 clear hK3
 refine wp_ifn hF rfl (fun hc1 => ?_) (fun hc1 => ?_)
 ·refine wp_seq_k ?_; intro K4 hK4
  refine regl ?_
  refine wpl_sq hF hS (sq rfl (q_buildP (places := [(0, 1), (1, 1), (2, 1), (3, 1), (4, 1)]) (cells := [.int .i64 0, .int .i64 0, .int .i64 0, .string ⟨(List.nil : List UInt8).toArray⟩, .bool false]) ty94 kQ rfl (by rfl)) <|
    sq_end) ?_
  clear hF hS; intro a w hF hS
  refine wpl_ef hF hS rfl (ef_storeW ty94 0 rfl rfl rfl rfl bQ (oc_cons rfl (oc_cons rfl (oc_cons rfl (oc_cons rfl (oc_cons rfl oc_nil))))) bQ) ?_
  clear hF hS; rintro _ _ _ a w ⟨rfl, rfl, rfl⟩ hF hS
  replace hS : St _ [] [_] _ := hS
  refine wpList_nil ?_
  refine hK4 _ _ ?_
  clear hK4
  refine wp_ret ?_
  exact fn_ret (rs := [.cell 2 94]) rfl hF hS (vs := [_]) ⟨⟨_, _, _, _, _, _, _, rfl, List.mem_of_getElem? (i := 0) rfl, ty94, .inl ⟨rfl, bQ, rfl⟩⟩, trivial⟩ zQ zQ (by rw [Jn.unp_len (by omega)]; rfl)
 ·have h64 : s.length = 64 := by omega
  refine wp_skip ?_
  refine hK2 _ _ ?_
  clear hK2
  refine wp_seq_k ?_; intro K5 hK5
  refine regl ?_
  refine wpl_sq hF hS (sq rfl (q_move rfl) <|
    sq_end) ?_
  clear hF hS; intro a w hF hS
  refine wpl_ef hF hS rfl (ef_s2b ty9 ty81 ty5 rfl (by omega)) ?_
  clear hF hS; rintro v2 _ _ a w ⟨z3, rfl, rfl, hz4⟩ hF hS
  refine wpl_sq hF hS (sq rfl (q_s2ap_sl ty96 hz4 rfl bQ (by decide)) <|
    sq rfl (q_ld_B16 ty96 hz4 (.inr (by simp)) rfl rfl bQ (by decide)) <|
    sq_end) ?_
  clear hF hS; intro a w hF hS
  refine wpl_ef hF hS rfl (ef_allocA ty96) ?_
  clear hF hS; rintro _ _ _ a w ⟨b5, rfl, rfl, rfl⟩ hF hS
  rw [show List.replicate 64 (Value.int .u8 0) = (List.replicate 64 (0 : UInt8)).map vb from by rw [List.map_replicate] <;> rfl] at hS
  refine wpl_ef hF hS rfl (ef_storeW ty96 0 rfl rfl rfl rfl bQ oQ bQ) ?_
  clear hF hS; rintro _ _ _ a w ⟨rfl, rfl, rfl⟩ hF hS
  replace hS : St _ [_] [_, _] _ := hS
  refine wpList_nil ?_
  refine hK5 _ _ ?_
  clear hK5
  refine wp_seq_k ?_; intro K6 hK6
  refine regl ?_
  refine wpl_sq hF hS (sq rfl (q_sla_hi ty96 ty5 rfl rfl (by omega)) <|
    sq rfl (q_call fn75 rfl (fun w hS => sum_ct _ _ (by rw [List.length_drop, List.length_take]; omega) w (blk_slO hS 0 rfl (by first | omega | (simp; omega) | (simp [*]; done) | (simp [*]; omega))) (hS.ext _ _ hg0)) (fun _ _ _ h => h)) <|
    sq_end) ?_
  clear hF hS; intro a w hF hS
  refine wpl_ef hF hS rfl (ef_allocA ty125) ?_
  clear hF hS; rintro _ _ _ a w ⟨b6, rfl, rfl, rfl⟩ hF hS
  rw [show List.replicate 32 (Value.int .u8 0) = (List.replicate 32 (0 : UInt8)).map vb from by rw [List.map_replicate] <;> rfl] at hS
  refine wpl_ef hF hS rfl (ef_storeW ty125 0 rfl rfl rfl rfl bQ oQ bQ) ?_
  clear hF hS; rintro _ _ _ a w ⟨rfl, rfl, rfl⟩ hF hS
  replace hS : St _ [_] [_, _, _] _ := hS
  refine wpList_nil ?_
  refine hK6 _ _ ?_
  clear hK6
  refine wp_seq_k ?_; intro K7 hK7
  revert hS; revert hF; apply regJ (J := J1 (α0 := Nat) 79 _ _ _ _ _) #[false, false, false, false, false, false, false, false, false] 9 mixed rfl rfl
  ·intro w hF hS
   refine goW_take 0 _ rfl kQ rfl hF (hS.keep sQ (zQ.k.n)) (q_sla_hi ty96 ty5 rfl rfl (by omega)) ?_
   clear hF; intro a hF
   refine goW_take 2 _ rfl kQ rfl hF (hS.keep sQ (zQ.k.n)) (q_sla_lo_hi ty96 ty5 rfl rfl rfl (by omega)) ?_
   clear hF; intro a hF
   refine goW_take 4 _ rfl kQ rfl hF (hS.keep sQ (zQ.k.n)) (q_sla_lo_hi ty96 ty5 rfl rfl rfl (by omega)) ?_
   clear hF; intro a hF
   refine goW_fork [1, 7] kQ rfl ⟨?_, ?_, trivial⟩
   ·refine stepW_ef _ rfl rfl hF hS rfl (ef_qt (q_call fn76 rfl (fun w hS => get_ct _ _ (by rw [List.length_drop, List.length_take]; omega) w (blk_slO hS 1 rfl (by first | omega | (simp; omega) | (simp [*]; done) | (simp [*]; omega)))) (fun _ _ _ h => h))) ?_
    clear hF hS; rintro _ _ _ a w ⟨rfl, rfl, rfl⟩ hF hS
    refine ⟨⟨.inr (hS.keep sQ (zQ.k.n)), .inr (hS.keep sQ (zQ.k.n)), iQ, trivial⟩, ?_⟩
    refine goW_fork [3, 7] kQ rfl ⟨?_, ?_, trivial⟩
    ·refine stepW_ef _ rfl rfl hF hS rfl (ef_qt (q_call fn76 rfl (fun w hS => get_ct _ _ (by rw [List.length_drop, List.length_take]; omega) w (blk_slO hS 1 rfl (by first | omega | (simp; omega) | (simp [*]; done) | (simp [*]; omega)))) (fun _ _ _ h => h))) ?_
     clear hF hS; rintro _ _ _ a w ⟨rfl, rfl, rfl⟩ hF hS
     refine ⟨⟨.inr (hS.keep sQ (zQ.k.n)), iQ, iQ, trivial⟩, ?_⟩
     refine goW_fork [5, 7] kQ rfl ⟨?_, ?_, trivial⟩
     ·refine stepW_ef _ rfl rfl hF hS rfl (ef_qt (q_call fn76 rfl (fun w hS => get_ct _ _ (by rw [List.length_drop, List.length_take]; omega) w (blk_slO hS 1 rfl (by first | omega | (simp; omega) | (simp [*]; done) | (simp [*]; omega)))) (fun _ _ _ h => h))) ?_
      clear hF hS; rintro _ _ _ a w ⟨rfl, rfl, rfl⟩ hF hS
      refine ⟨⟨iQ, iQ, iQ, trivial⟩, ?_⟩
      refine goW_take 6 _ rfl kQ rfl hF (hS.keep sQ zQ) (q_buildP (places := [(0, 1), (1, 1), (2, 1), (3, 1), (4, 1)]) (cells := [_, _, _, .string ⟨(List.nil : List UInt8).toArray⟩, _]) ty94 kQ rfl (by rfl)) ?_
      clear hF; intro a hF
      refine gQ 7 rfl rfl hF hS rfl (ef_allocA ty94) ?_
      clear hF hS; rintro _ _ _ a w ⟨b_5_7, rfl, rfl, rfl⟩ hF hS
      refine ⟨⟨.inr (hS.keep sQ zQ), iQ, iQ, iQ, trivial⟩, ?_⟩
      refine gQ 8 rfl rfl hF hS rfl (ef_storeW ty94 0 rfl rfl rfl rfl bQ (oc_cons rfl (oc_cons rfl (oc_cons rfl (oc_cons rfl (oc_cons rfl oc_nil))))) bQ) ?_
      clear hF hS; rintro _ _ _ a w ⟨rfl, rfl, rfl⟩ hF hS
      refine ⟨⟨iQ, iQ, iQ, iQ, trivial⟩, ?_⟩
      exact goW_done kQ (j1_mk b_5_7 (trivial) (hF.sub (L' := [(0, _), (2, _), (3, _), (4, _), (5, _)]) ⟨rfl, rfl, rfl, rfl, rfl, trivial⟩) hS)
     ·refine stepW_ef _ rfl rfl hF hS rfl (ef_allocA ty94) ?_
      clear hF hS; rintro _ _ _ a w ⟨b_5_7, rfl, rfl, rfl⟩ hF hS
      refine ⟨⟨.inr (hS.keep sQ (zQ.k.n.n)), iQ, iQ, trivial⟩, ?_⟩
      refine gQ 5 rfl rfl hF hS rfl (ef_qt (q_call fn76 rfl (fun w hS => get_ct _ _ (by rw [List.length_drop, List.length_take]; omega) w (blk_slO hS 2 rfl (by first | omega | (simp; omega) | (simp [*]; done) | (simp [*]; omega)))) (fun _ _ _ h => h))) ?_
      clear hF hS; rintro _ _ _ a w ⟨rfl, rfl, rfl⟩ hF hS
      refine ⟨⟨iQ, iQ, iQ, trivial⟩, ?_⟩
      refine goW_take 6 _ rfl kQ rfl hF (hS.keep sQ zQ) (q_buildP (places := [(0, 1), (1, 1), (2, 1), (3, 1), (4, 1)]) (cells := [_, _, _, .string ⟨(List.nil : List UInt8).toArray⟩, _]) ty94 kQ rfl (by rfl)) ?_
      clear hF; intro a hF
      refine gQ 8 rfl rfl hF hS rfl (ef_storeW ty94 0 rfl rfl rfl rfl bQ (oc_cons rfl (oc_cons rfl (oc_cons rfl (oc_cons rfl (oc_cons rfl oc_nil))))) bQ) ?_
      clear hF hS; rintro _ _ _ a w ⟨rfl, rfl, rfl⟩ hF hS
      refine ⟨⟨iQ, iQ, iQ, iQ, trivial⟩, ?_⟩
      exact goW_done kQ (j1_mk b_5_7 (trivial) (hF.sub (L' := [(0, _), (2, _), (3, _), (4, _), (5, _)]) ⟨rfl, rfl, rfl, rfl, rfl, trivial⟩) hS)
    ·refine stepW_ef _ rfl rfl hF hS rfl (ef_allocA ty94) ?_
     clear hF hS; rintro _ _ _ a w ⟨b_5_7, rfl, rfl, rfl⟩ hF hS
     refine ⟨⟨.inr (hS.keep sQ (zQ.k.n.n)), .inr (hS.keep sQ (zQ.k.n.n)), iQ, trivial⟩, ?_⟩
     refine gQ 3 rfl rfl hF hS rfl (ef_qt (q_call fn76 rfl (fun w hS => get_ct _ _ (by rw [List.length_drop, List.length_take]; omega) w (blk_slO hS 2 rfl (by first | omega | (simp; omega) | (simp [*]; done) | (simp [*]; omega)))) (fun _ _ _ h => h))) ?_
     clear hF hS; rintro _ _ _ a w ⟨rfl, rfl, rfl⟩ hF hS
     refine ⟨⟨.inr (hS.keep sQ (zQ.k.n.n)), iQ, iQ, trivial⟩, ?_⟩
     refine gQ 5 rfl rfl hF hS rfl (ef_qt (q_call fn76 rfl (fun w hS => get_ct _ _ (by rw [List.length_drop, List.length_take]; omega) w (blk_slO hS 2 rfl (by first | omega | (simp; omega) | (simp [*]; done) | (simp [*]; omega)))) (fun _ _ _ h => h))) ?_
     clear hF hS; rintro _ _ _ a w ⟨rfl, rfl, rfl⟩ hF hS
     refine ⟨⟨iQ, iQ, iQ, trivial⟩, ?_⟩
     refine goW_take 6 _ rfl kQ rfl hF (hS.keep sQ zQ) (q_buildP (places := [(0, 1), (1, 1), (2, 1), (3, 1), (4, 1)]) (cells := [_, _, _, .string ⟨(List.nil : List UInt8).toArray⟩, _]) ty94 kQ rfl (by rfl)) ?_
     clear hF; intro a hF
     refine gQ 8 rfl rfl hF hS rfl (ef_storeW ty94 0 rfl rfl rfl rfl bQ (oc_cons rfl (oc_cons rfl (oc_cons rfl (oc_cons rfl (oc_cons rfl oc_nil))))) bQ) ?_
     clear hF hS; rintro _ _ _ a w ⟨rfl, rfl, rfl⟩ hF hS
     refine ⟨⟨iQ, iQ, iQ, iQ, trivial⟩, ?_⟩
     exact goW_done kQ (j1_mk b_5_7 (trivial) (hF.sub (L' := [(0, _), (2, _), (3, _), (4, _), (5, _)]) ⟨rfl, rfl, rfl, rfl, rfl, trivial⟩) hS)
   ·refine stepW_ef _ rfl rfl hF hS rfl (ef_allocA ty94) ?_
    clear hF hS; rintro _ _ _ a w ⟨b_5_7, rfl, rfl, rfl⟩ hF hS
    refine ⟨⟨.inr (hS.keep sQ (zQ.k.n.n)), .inr (hS.keep sQ (zQ.k.n.n)), .inr (hS.keep sQ (zQ.k.n.n)), trivial⟩, ?_⟩
    refine gQ 1 rfl rfl hF hS rfl (ef_qt (q_call fn76 rfl (fun w hS => get_ct _ _ (by rw [List.length_drop, List.length_take]; omega) w (blk_slO hS 2 rfl (by first | omega | (simp; omega) | (simp [*]; done) | (simp [*]; omega)))) (fun _ _ _ h => h))) ?_
    clear hF hS; rintro _ _ _ a w ⟨rfl, rfl, rfl⟩ hF hS
    refine ⟨⟨.inr (hS.keep sQ (zQ.k.n.n)), .inr (hS.keep sQ (zQ.k.n.n)), iQ, trivial⟩, ?_⟩
    refine gQ 3 rfl rfl hF hS rfl (ef_qt (q_call fn76 rfl (fun w hS => get_ct _ _ (by rw [List.length_drop, List.length_take]; omega) w (blk_slO hS 2 rfl (by first | omega | (simp; omega) | (simp [*]; done) | (simp [*]; omega)))) (fun _ _ _ h => h))) ?_
    clear hF hS; rintro _ _ _ a w ⟨rfl, rfl, rfl⟩ hF hS
    refine ⟨⟨.inr (hS.keep sQ (zQ.k.n.n)), iQ, iQ, trivial⟩, ?_⟩
    refine gQ 5 rfl rfl hF hS rfl (ef_qt (q_call fn76 rfl (fun w hS => get_ct _ _ (by rw [List.length_drop, List.length_take]; omega) w (blk_slO hS 2 rfl (by first | omega | (simp; omega) | (simp [*]; done) | (simp [*]; omega)))) (fun _ _ _ h => h))) ?_
    clear hF hS; rintro _ _ _ a w ⟨rfl, rfl, rfl⟩ hF hS
    refine ⟨⟨iQ, iQ, iQ, trivial⟩, ?_⟩
    refine goW_take 6 _ rfl kQ rfl hF (hS.keep sQ zQ) (q_buildP (places := [(0, 1), (1, 1), (2, 1), (3, 1), (4, 1)]) (cells := [_, _, _, .string ⟨(List.nil : List UInt8).toArray⟩, _]) ty94 kQ rfl (by rfl)) ?_
    clear hF; intro a hF
    refine gQ 8 rfl rfl hF hS rfl (ef_storeW ty94 0 rfl rfl rfl rfl bQ (oc_cons rfl (oc_cons rfl (oc_cons rfl (oc_cons rfl (oc_cons rfl oc_nil))))) bQ) ?_
    clear hF hS; rintro _ _ _ a w ⟨rfl, rfl, rfl⟩ hF hS
    refine ⟨⟨iQ, iQ, iQ, iQ, trivial⟩, ?_⟩
    exact goW_done kQ (j1_mk b_5_7 (trivial) (hF.sub (L' := [(0, _), (2, _), (3, _), (4, _), (5, _)]) ⟨rfl, rfl, rfl, rfl, rfl, trivial⟩) hS)
  rintro a w ⟨b_5_7, -, hF, hS⟩
  (try dsimp only at hF); (try dsimp only at hS)
  replace hS : St _ [_] [.blk b_5_7 94 [vi (Jn.num s : Int), vi (Jn.par s : Int), vi (Jn.lft s : Int), vs [], .bool true], _, _, _] _ := hS
  obtain ⟨hnr, hpr, hlr⟩ := Jn.rng s
  have hin := Jn.inn_le s
  refine hK7 _ _ ?_
  clear hK7
  refine wp_seq_k ?_; intro K8 hK8
  refine reg hF hS (sq rfl (q_fieldAddr ty94 rfl rfl (s' := 0) kQ) <|
    sq rfl (q_ld_blk1 ty3 0 rfl rfl rfl rfl) <|
    sq rfl (q_min rfl rfl) <|
    sq rfl (q_assign rfl) <|
    sq_end) ?_
  clear hF hS; intro a w hF hS
  rw [show (min (Jn.lft s : Int) 48) = ((Jn.inn s : Nat) : Int) by unfold Jn.inn; omega] at hF
  refine hK8 _ _ ?_
  clear hK8
  refine wp_seq_k ?_; intro K9 hK9
  refine regl ?_
  refine wpl_sq hF hS (sq rfl (q_move rfl) <|
    sq rfl (q_subi_to (r := ((48 - Jn.inn s : Nat) : Int)) rfl rfl (by omega) (by omega)) <|
    sq_end) ?_
  clear hF hS; intro a w hF hS
  refine wpl_ef hF hS rfl (ef_mks ty81 ty5 rfl rfl bQ bQ rfl) ?_
  clear hF hS; rintro v7 _ _ a w ⟨rfl, rfl⟩ hF hS
  replace hS : St _ [_] [_, _, _, _, _] _ := hS
  refine wpl_sq hF hS (sq rfl (q_assign rfl) <|
    sq_end) ?_
  clear hF hS; intro a w hF hS
  refine wpList_nil ?_
  rw [show List.replicate (48 - Jn.inn s) (Value.int .u8 0) = (List.replicate (48 - Jn.inn s) (0 : UInt8)).map vb from by rw [List.map_replicate]; rfl] at hS
  refine hK9 _ _ ?_
  clear hK9
  refine wp_seq_k ?_; intro K10 hK10
  refine wp_seq_k ?_; intro K11 hK11
  refine regq mixed kQ hS ?_
  refine wpq_seg hF (sq rfl (q_sla_hi ty125 ty5 rfl rfl (by omega)) <|
    sq rfl (q_sla_lo ty96 ty5 rfl rfl (by omega)) <|
    sq rfl (q_call fn77 rfl (fun w hS => beq_ct _ _ _ _ w (blk_slO hS 2 rfl (by first | omega | (simp; omega) | (simp [*]; done) | (simp [*]; omega))) (blk_slO hS 3 rfl (by first | omega | (simp; omega) | (simp [*]; done) | (simp [*]; omega)))) (fun _ _ _ h => h)) <|
    sq rfl (q_not rfl) <|
    sq rfl (q_move rfl) <|
    sq_end) ?_
  clear hF; intro a hF
  refine wpq_or 4 35 3 hF rfl rfl rfl rfl rfl (fun hg => have hg := (nd_false hg); sq_go 35 rfl rfl rfl (q_fieldAddr ty94 rfl rfl (s' := 0) kQ) <|
    sq_go 35 rfl rfl rfl (q_ld_blk1 ty3 1 rfl rfl rfl rfl) <|
    sq_go 35 rfl rfl rfl (q_eqi rfl rfl) <|
    sq_end) rfl rfl ?_
  clear hF; intro a hF
  refine wpq_seg hF (sq rfl (q_move rfl) <|
    sq_end) ?_
  clear hF; intro a hF
  refine wpq_or 9 40 3 hF rfl rfl rfl rfl rfl (fun hg => have hg := hg; sq_go 40 rfl rfl rfl (q_fieldAddr ty94 rfl rfl (s' := 0) kQ) <|
    sq_go 40 rfl rfl rfl (q_ld_blk1 ty3 1 rfl rfl rfl rfl) <|
    sq_go 40 rfl rfl rfl (q_gti rfl rfl) <|
    sq_end) rfl rfl ?_
  clear hF; intro a hF
  refine wpq_seg hF (sq rfl (q_move rfl) <|
    sq_end) ?_
  clear hF; intro a hF
  refine wpq_or 14 45 7 hF rfl rfl rfl rfl rfl (fun hg => have hg := hg; sq_go 45 rfl rfl rfl (q_fieldAddr ty94 rfl rfl (s' := 0) kQ) <|
    sq_go 45 rfl rfl rfl (q_ld_blk1 ty3 1 rfl rfl rfl rfl) <|
    sq_go 45 rfl rfl rfl (q_muli rfl rfl (by omega)) <|
    sq_go 45 rfl rfl rfl (q_fieldAddr ty94 rfl rfl (s' := 0) kQ) <|
    sq_go 45 rfl rfl rfl (q_ld_blk1 ty3 1 rfl rfl rfl rfl) <|
    sq_go 45 rfl rfl rfl (q_addi rfl rfl (by omega)) <|
    sq_go 45 rfl rfl rfl (q_gti rfl rfl) <|
    sq_end) rfl rfl ?_
  clear hF; intro a hF
  refine wpq_seg hF (sq rfl (q_move rfl) <|
    sq_end) ?_
  clear hF; intro a hF
  refine wpq_orG (q := (decide ((Jn.lft s : Int) = 0) && decide ((0 : Int) < (Jn.par s : Int)))) 54 8 hF rfl (by rfl) rfl (by exact trivial) (fun _ => sq_skip 54 rfl rfl rfl rfl <|
    sq_skip 54 rfl rfl rfl rfl <|
    sq_skip 54 rfl rfl rfl rfl <|
    sq_skip 54 rfl rfl rfl rfl <|
    sq_skipu 58 rfl rfl rfl <|
    sq_skipu 58 rfl rfl rfl <|
    sq_skipu 58 rfl rfl rfl <|
    sq_skip 54 rfl rfl rfl rfl <|
    sq_end) rfl (fun hg a hF KG => ?_) ?_
  ·have hg := hg
   refine wpq_seg hF (sq_go 54 rfl rfl rfl (q_fieldAddr ty94 rfl rfl (s' := 0) kQ) <|
     sq_go 54 rfl rfl rfl (q_ld_blk1 ty3 1 rfl rfl rfl rfl) <|
     sq_go 54 rfl rfl rfl (q_eqi rfl rfl) <|
     sq_go 54 rfl rfl rfl (q_move rfl) <|
     sq_end) ?_
   clear hF; intro a hF
   refine wpq_andP 27 58 3 23 54 hF rfl rfl rfl rfl rfl rfl rfl (fun hg => have hg := (by first | exact of_decide_eq_true hg | exact hg); sq_go 58 rfl rfl rfl (q_fieldAddr ty94 rfl rfl (s' := 0) kQ) <|
     sq_go 58 rfl rfl rfl (q_ld_blk1 ty3 1 rfl rfl rfl rfl) <|
     sq_go 58 rfl rfl rfl (q_gti rfl rfl) <|
     sq_end) rfl rfl ?_
   clear hF; intro a hF
   refine wpq_seg hF (sq rfl (q_pick_f rfl rfl) <|
     sq_end) ?_
   clear hF; intro a hF
   exact KG _ (hF.under 5 rfl rfl)
  clear hF; intro a hF
  refine wpq_seg hF (sq rfl (q_move rfl) <|
    sq_end) ?_
  clear hF; intro a hF
  refine wpq_or 33 64 6 hF rfl rfl rfl rfl rfl (fun hg => have hg := hg; sq_go 64 rfl rfl rfl (q_move rfl) <|
    sq_go 64 rfl rfl rfl (q_addi rfl rfl (by omega)) <|
    sq_go 64 rfl rfl rfl (q_sla_lo_hi ty96 ty5 rfl rfl rfl (by omega)) <|
    sq_go 64 rfl rfl rfl (q_move rfl) <|
    sq_go 64 rfl rfl rfl (q_call fn77 rfl (fun w hS => beq_ct _ _ _ _ w (blk_slO hS 3 rfl (by first | omega | (simp; omega) | (simp [*]; done) | (simp [*]; omega))) (own_slV (hS.own _ (List.mem_of_getElem? (i := 0) rfl)).1 (by first | assumption | (simp; done)) (by first | rfl | (simp; done) | (simp; omega) | omega) (by first | omega | (simp; omega)))) (fun _ _ _ h => h)) <|
    sq_go 64 rfl rfl rfl (q_not rfl) <|
    sq_end) rfl rfl ?_
  clear hF; intro a hF
  refine wpq_nil ?_
  clear hS; intro w hS
  refine hK11 _ _ ?_
  clear hK11
  refine wp_if hF rfl (fun hc2 => ?_) (fun hc2 => ?_)
  ·(try simp only [Bool.or_eq_true, Bool.and_eq_true, Bool.or_eq_false_iff, Bool.and_eq_false_iff, decide_eq_true_eq, decide_eq_false_iff_not, Bool.not_eq_true', Bool.not_eq_false'] at hc2)
   refine wp_seq_k ?_; intro K12 hK12
   refine regl ?_
   refine wpl_sq hF hS (sq rfl (q_buildP (places := [(0, 1), (1, 1), (2, 1), (3, 1), (4, 1)]) (cells := [.int .i64 0, .int .i64 0, .int .i64 0, .string ⟨(List.nil : List UInt8).toArray⟩, .bool false]) ty94 kQ rfl (by rfl)) <|
     sq_end) ?_
   clear hF hS; intro a w hF hS
   refine wpl_ef hF hS rfl (ef_storeW ty94 4 rfl rfl rfl rfl bQ (oc_cons rfl (oc_cons rfl (oc_cons rfl (oc_cons rfl (oc_cons rfl oc_nil))))) bQ) ?_
   clear hF hS; rintro _ _ _ a w ⟨rfl, rfl, rfl⟩ hF hS
   replace hS : St _ [_] [_, _, _, _, _] _ := hS
   refine wpList_nil ?_
   refine hK12 _ _ ?_
   clear hK12
   refine wp_ret ?_
   exact fn_ret (rs := [.cell 2 94]) rfl hF hS (vs := [_]) ⟨⟨_, _, _, _, _, _, _, rfl, List.mem_of_getElem? (i := 4) rfl, ty94, .inl ⟨rfl, bQ, rfl⟩⟩, trivial⟩ zQ zQ (by rw [Jn.unp_bad (Jn.bad_of h64 hc2)]; rfl)
  ·(try simp only [Bool.or_eq_true, Bool.and_eq_true, Bool.or_eq_false_iff, Bool.and_eq_false_iff, decide_eq_true_eq, decide_eq_false_iff_not, Bool.not_eq_true', Bool.not_eq_false'] at hc2)
   refine wp_skip ?_
   refine hK10 _ _ ?_
   clear hK10
   refine wp_seq_k ?_; intro K13 hK13
   refine regl ?_
   refine wpl_sq hF hS (sq rfl (q_move rfl) <|
     sq rfl (q_move rfl) <|
     sq rfl (q_addi rfl rfl (by omega)) <|
     sq rfl (q_sl_s ty9 rfl rfl rfl (by omega)) <|
     sq rfl (q_fieldAddr ty94 rfl rfl (s' := 0) kQ) <|
     sq_end) ?_
   clear hF hS; intro a w hF hS
   refine wpl_ef hF hS rfl (ef_store1 ty9 1 rfl rfl rfl rfl (by simp)) ?_
   clear hF hS; rintro _ _ _ a w ⟨rfl, rfl, rfl⟩ hF hS
   replace hS : St _ [_] [_, .blk _ _ ([_, _, _, _, _].set 3 _), _, _, _] _ := hS
   simp only [List.set_cons_zero, List.set_cons_succ] at hS
   replace hS : St _ [_] [_, _, _, _, _] _ := hS
   refine wpList_nil ?_
   refine hK13 _ _ ?_
   clear hK13
   refine wp_seq_k ?_; intro K14 hK14
   refine regl ?_
   refine wpl_sq hF hS (sq rfl (q_ld_blkW ty94 1 rfl rfl bQ rfl) <|
     sq_end) ?_
   clear hF hS; intro a w hF hS
   refine wpl_ef hF hS rfl (ef_storeW ty94 4 rfl rfl rfl rfl bQ (oc_cons rfl (oc_cons rfl (oc_cons rfl (oc_cons rfl (oc_cons rfl oc_nil))))) bQ) ?_
   clear hF hS; rintro _ _ _ a w ⟨rfl, rfl, rfl⟩ hF hS
   replace hS : St _ [_] [_, _, _, _, _] _ := hS
   refine wpList_nil ?_
   refine hK14 _ _ ?_
   clear hK14
   refine wp_ret ?_
   exact fn_ret (rs := [.cell 2 94]) rfl hF hS (vs := [_]) ⟨⟨_, _, _, _, _, _, _, rfl, List.mem_of_getElem? (i := 4) rfl, ty94, .inl ⟨rfl, bQ, rfl⟩⟩, trivial⟩ zQ zQ (by rw [Jn.unp_good (Jn.good_of h64 hc2), show (8 + (Jn.inn s : Int)).toNat = 8 + Jn.inn s by omega]; rfl)

set_option maxRecDepth 4000 in
set_option maxHeartbeats 2000000 in
theorem unpackx_ct (s : List UInt8) (w : World) {fz0 : Nat × Nat} {bt0 : TypeId} (hg0 : w.heap[2]? = some (.cells (Sha.kc.map vw).toArray bt0 fz0)) : Ct Tryz.prog 41 [vs s] w (fun r _ _ => r = .tuple [vi (Jn.unp s).n, vi (Jn.unp s).p, vi (Jn.unp s).l, vs (Jn.unp s).t, .bool (Jn.unp s).ok].toArray) := by
 refine fn_enter Tryz.func41 rfl Tryz.ntmps41 (Nat.le_of_ble_eq_true rfl) fun a hF hS => ?_
 refine wp_seq_k ?_; intro K1 hK1
 refine reg hF hS (sq rfl (q_assign rfl) <|
   sq rfl (q_assign rfl) <|
   sq rfl (q_assign rfl) <|
   sq rfl (q_assign rfl) <|
   sq rfl (q_assign rfl) <|
   sq_end) ?_
 clear hF hS; intro a w hF hS
 refine hK1 _ _ ?_
 clear hK1
 refine wp_seq_k ?_; intro K2 hK2
 refine regl ?_
 refine wpl_sq hF hS (sq rfl (q_move rfl) <|
   sq rfl (q_call fn49 rfl (fun w hS => unpack_ct _ w (hS.ext _ _ hg0)) (fun _ _ _ h => h)) <|
   sq_end) ?_
 clear hF hS; intro a w hF hS
 refine wpl_ef hF hS rfl (ef_allocA ty94) ?_
 clear hF hS; rintro _ _ _ a w ⟨b1, rfl, rfl, rfl⟩ hF hS
 refine wpl_ef hF hS rfl (ef_storeW ty94 0 rfl rfl rfl rfl bQ (oc_cons rfl (oc_cons rfl (oc_cons rfl (oc_cons rfl (oc_cons rfl oc_nil))))) bQ) ?_
 clear hF hS; rintro _ _ _ a w ⟨rfl, rfl, rfl⟩ hF hS
 replace hS : St _ [] [_] _ := hS
 refine wpList_nil ?_
 refine hK2 _ _ ?_
 clear hK2
 refine wp_seq_k ?_; intro K3 hK3
 refine regd mixed kQ hF hS (sq rfl (q_fieldAddr ty94 rfl rfl (s' := 0) kQ) <|
   sq rfl (q_ld_blk1 ty3 0 rfl rfl rfl rfl) <|
   sq rfl (q_fieldAddr ty94 rfl rfl (s' := 0) kQ) <|
   sq rfl (q_ld_blk1 ty3 0 rfl rfl rfl rfl) <|
   sq rfl (q_fieldAddr ty94 rfl rfl (s' := 0) kQ) <|
   sq rfl (q_ld_blk1 ty3 0 rfl rfl rfl rfl) <|
   sq rfl (q_fieldAddr ty94 rfl rfl (s' := 0) kQ) <|
   sq rfl (q_ld_blk1 ty9 0 rfl rfl rfl rfl) <|
   sq rfl (q_fieldAddr ty94 rfl rfl (s' := 0) kQ) <|
   sq rfl (q_ld_blk1 ty4 0 rfl rfl rfl rfl) <|
   sq rfl (q_assign rfl) <|
   sq rfl (q_assign rfl) <|
   sq rfl (q_assign rfl) <|
   sq rfl (q_assign rfl) <|
   sq rfl (q_assign rfl) <|
   sq_end) ?_
 clear hF hS; intro a w hF hS
 refine hK3 _ _ ?_
 clear hK3
 refine wp_ret ?_
 exact fn_ret (rs := [.tmp 2, .tmp 3, .tmp 4, .tmp 5, .tmp 6]) rfl hF hS (vs := [_, _, _, _, _]) ⟨rfl, rfl, rfl, rfl, rfl, trivial⟩ zQ zQ (rfl)

set_option maxRecDepth 4000 in
set_option maxHeartbeats 2000000 in
theorem runpack_ct (s : List UInt8) (w : World) {fz0 : Nat × Nat} {bt0 : TypeId} (hg0 : w.heap[0]? = some (.cells (Sha.kc.map vw).toArray bt0 fz0)) : Ct Tryz.prog 54 [vs s] w (fun r _ _ => r = Jn.pV (Jn.unp s)) := by
 refine fn_enter Tryz.func54 rfl Tryz.ntmps54 (Nat.le_of_ble_eq_true rfl) fun a hF hS => ?_
 refine wp_seq_k ?_; intro K1 hK1
 refine regl ?_
 refine wpl_ef hF hS rfl (ef_allocA ty102) ?_
 clear hF hS; rintro _ _ _ a w ⟨b1, rfl, rfl, rfl⟩ hF hS
 refine wpList_nil ?_
 refine hK1 _ _ ?_
 clear hK1
 refine wp_seq_k ?_; intro K2 hK2
 refine wp_seq_k ?_; intro K3 hK3
 refine reg hF hS (sq rfl (q_move rfl) <|
   sq rfl (q_len_s ty9 rfl) <|
   sq rfl (q_nei rfl rfl) <|
   sq_end) ?_
 clear hF hS; intro a w hF hS
 refine hK3 _ _ ?_
 clear hK3
 refine wp_ifn hF rfl (fun hc1 => ?_) (fun hc1 => ?_)
 ·refine wp_seq_k ?_; intro K4 hK4
  refine regl ?_
  refine wpl_sq hF hS (sq rfl (q_buildP (places := [(0, 1), (1, 1), (2, 1), (3, 1), (4, 1)]) (cells := [.int .i64 0, .int .i64 0, .int .i64 0, .string ⟨(List.nil : List UInt8).toArray⟩, .bool false]) ty102 kQ rfl (by rfl)) <|
    sq_end) ?_
  clear hF hS; intro a w hF hS
  refine wpl_ef hF hS rfl (ef_storeW ty102 0 rfl rfl rfl rfl bQ (oc_cons rfl (oc_cons rfl (oc_cons rfl (oc_cons rfl (oc_cons rfl oc_nil))))) bQ) ?_
  clear hF hS; rintro _ _ _ a w ⟨rfl, rfl, rfl⟩ hF hS
  replace hS : St _ [] [_] _ := hS
  refine wpList_nil ?_
  refine hK4 _ _ ?_
  clear hK4
  refine wp_ret ?_
  exact fn_ret (rs := [.cell 2 102]) rfl hF hS (vs := [_]) ⟨⟨_, _, _, _, _, _, _, rfl, List.mem_of_getElem? (i := 0) rfl, ty102, .inl ⟨rfl, bQ, rfl⟩⟩, trivial⟩ zQ zQ (by rw [Jn.unp_len (by omega)]; rfl)
 ·have h64 : s.length = 64 := by omega
  have ht56 : (List.take (Int.toNat 56) s).length = 56 := by rw [List.length_take]; omega
  refine wp_skip ?_
  refine hK2 _ _ ?_
  clear hK2
  refine wp_seq_k ?_; intro K5 hK5
  revert hS; revert hF; apply regJ (J := J1 (α0 := Nat) 77 _ _ _ _ _) #[false, false, false, false, false, false, false, false, false, false, false, false] 12 mixed rfl rfl
  ·intro w hF hS
   refine goW_take 0 _ rfl kQ rfl hF (hS.keep sQ zQ) (q_move rfl) ?_
   clear hF; intro a hF
   refine goW_take 1 _ rfl kQ rfl hF (hS.keep sQ zQ) (q_sl_s_hi ty9 rfl rfl (by omega)) ?_
   clear hF; intro a hF
   refine goW_take 3 _ rfl kQ rfl hF (hS.keep sQ zQ) (q_move rfl) ?_
   clear hF; intro a hF
   refine goW_take 4 _ rfl kQ rfl hF (hS.keep sQ zQ) (q_sl_s ty9 rfl rfl rfl (by omega)) ?_
   clear hF; intro a hF
   refine goW_take 6 _ rfl kQ rfl hF (hS.keep sQ zQ) (q_move rfl) ?_
   clear hF; intro a hF
   refine goW_take 7 _ rfl kQ rfl hF (hS.keep sQ zQ) (q_sl_s ty9 rfl rfl rfl (by omega)) ?_
   clear hF; intro a hF
   refine goW_fork [2, 10] kQ rfl ⟨?_, ?_, trivial⟩
   ·refine stepW_ef _ rfl rfl hF hS rfl (ef_qt (q_call fn79 rfl (fun w hS => number_ct _ (by first | (rw [List.length_drop, List.length_take]; omega) | (rw [List.length_take]; omega)) w ) (fun _ _ _ h => h))) ?_
    clear hF hS; rintro _ _ _ a w ⟨rfl, rfl, rfl⟩ hF hS
    refine ⟨⟨.inr hS.k0, .inr hS.k0, .inr hS.k0, .inr hS.k0, iQ, iQ, trivial⟩, ?_⟩
    refine goW_fork [5, 10] kQ rfl ⟨?_, ?_, trivial⟩
    ·refine stepW_ef _ rfl rfl hF hS rfl (ef_qt (q_call fn79 rfl (fun w hS => number_ct _ (by first | (rw [List.length_drop, List.length_take]; omega) | (rw [List.length_take]; omega)) w ) (fun _ _ _ h => h))) ?_
     clear hF hS; rintro _ _ _ a w ⟨rfl, rfl, rfl⟩ hF hS
     refine ⟨⟨.inr hS.k0, .inr hS.k0, iQ, iQ, iQ, iQ, trivial⟩, ?_⟩
     refine goW_fork [8, 10] kQ rfl ⟨?_, ?_, trivial⟩
     ·refine stepW_ef _ rfl rfl hF hS rfl (ef_qt (q_call fn79 rfl (fun w hS => number_ct _ (by first | (rw [List.length_drop, List.length_take]; omega) | (rw [List.length_take]; omega)) w ) (fun _ _ _ h => h))) ?_
      clear hF hS; rintro _ _ _ a w ⟨rfl, rfl, rfl⟩ hF hS
      refine ⟨⟨iQ, iQ, iQ, iQ, iQ, iQ, trivial⟩, ?_⟩
      refine goW_take 9 _ rfl kQ rfl hF (hS.keep sQ zQ) (q_buildP (places := [(0, 1), (1, 1), (2, 1), (3, 1), (4, 1)]) (cells := [_, _, _, .string ⟨(List.nil : List UInt8).toArray⟩, _]) ty102 kQ rfl (by rfl)) ?_
      clear hF; intro a hF
      refine gQ 10 rfl rfl hF hS rfl (ef_allocA ty102) ?_
      clear hF hS; rintro _ _ _ a w ⟨b_3_10, rfl, rfl, rfl⟩ hF hS
      refine ⟨⟨.inr hS.k0, iQ, iQ, iQ, iQ, iQ, iQ, trivial⟩, ?_⟩
      refine gQ 11 rfl rfl hF hS rfl (ef_storeW ty102 0 rfl rfl rfl rfl bQ (oc_cons rfl (oc_cons rfl (oc_cons rfl (oc_cons rfl (oc_cons rfl oc_nil))))) bQ) ?_
      clear hF hS; rintro _ _ _ a w ⟨rfl, rfl, rfl⟩ hF hS
      refine ⟨⟨iQ, iQ, iQ, iQ, iQ, iQ, iQ, trivial⟩, ?_⟩
      exact goW_done kQ (j1_mk b_3_10 (trivial) (hF.sub (L' := [(0, _), (2, _), (3, _)]) ⟨rfl, rfl, rfl, trivial⟩) hS)
     ·refine stepW_ef _ rfl rfl hF hS rfl (ef_allocA ty102) ?_
      clear hF hS; rintro _ _ _ a w ⟨b_3_10, rfl, rfl, rfl⟩ hF hS
      refine ⟨⟨.inr hS.k0, .inr hS.k0, iQ, iQ, iQ, iQ, trivial⟩, ?_⟩
      refine gQ 8 rfl rfl hF hS rfl (ef_qt (q_call fn79 rfl (fun w hS => number_ct _ (by first | (rw [List.length_drop, List.length_take]; omega) | (rw [List.length_take]; omega)) w ) (fun _ _ _ h => h))) ?_
      clear hF hS; rintro _ _ _ a w ⟨rfl, rfl, rfl⟩ hF hS
      refine ⟨⟨iQ, iQ, iQ, iQ, iQ, iQ, trivial⟩, ?_⟩
      refine goW_take 9 _ rfl kQ rfl hF (hS.keep sQ zQ) (q_buildP (places := [(0, 1), (1, 1), (2, 1), (3, 1), (4, 1)]) (cells := [_, _, _, .string ⟨(List.nil : List UInt8).toArray⟩, _]) ty102 kQ rfl (by rfl)) ?_
      clear hF; intro a hF
      refine gQ 11 rfl rfl hF hS rfl (ef_storeW ty102 0 rfl rfl rfl rfl bQ (oc_cons rfl (oc_cons rfl (oc_cons rfl (oc_cons rfl (oc_cons rfl oc_nil))))) bQ) ?_
      clear hF hS; rintro _ _ _ a w ⟨rfl, rfl, rfl⟩ hF hS
      refine ⟨⟨iQ, iQ, iQ, iQ, iQ, iQ, iQ, trivial⟩, ?_⟩
      exact goW_done kQ (j1_mk b_3_10 (trivial) (hF.sub (L' := [(0, _), (2, _), (3, _)]) ⟨rfl, rfl, rfl, trivial⟩) hS)
    ·refine stepW_ef _ rfl rfl hF hS rfl (ef_allocA ty102) ?_
     clear hF hS; rintro _ _ _ a w ⟨b_3_10, rfl, rfl, rfl⟩ hF hS
     refine ⟨⟨.inr hS.k0, .inr hS.k0, .inr hS.k0, .inr hS.k0, iQ, iQ, trivial⟩, ?_⟩
     refine gQ 5 rfl rfl hF hS rfl (ef_qt (q_call fn79 rfl (fun w hS => number_ct _ (by first | (rw [List.length_drop, List.length_take]; omega) | (rw [List.length_take]; omega)) w ) (fun _ _ _ h => h))) ?_
     clear hF hS; rintro _ _ _ a w ⟨rfl, rfl, rfl⟩ hF hS
     refine ⟨⟨.inr hS.k0, .inr hS.k0, iQ, iQ, iQ, iQ, trivial⟩, ?_⟩
     refine gQ 8 rfl rfl hF hS rfl (ef_qt (q_call fn79 rfl (fun w hS => number_ct _ (by first | (rw [List.length_drop, List.length_take]; omega) | (rw [List.length_take]; omega)) w ) (fun _ _ _ h => h))) ?_
     clear hF hS; rintro _ _ _ a w ⟨rfl, rfl, rfl⟩ hF hS
     refine ⟨⟨iQ, iQ, iQ, iQ, iQ, iQ, trivial⟩, ?_⟩
     refine goW_take 9 _ rfl kQ rfl hF (hS.keep sQ zQ) (q_buildP (places := [(0, 1), (1, 1), (2, 1), (3, 1), (4, 1)]) (cells := [_, _, _, .string ⟨(List.nil : List UInt8).toArray⟩, _]) ty102 kQ rfl (by rfl)) ?_
     clear hF; intro a hF
     refine gQ 11 rfl rfl hF hS rfl (ef_storeW ty102 0 rfl rfl rfl rfl bQ (oc_cons rfl (oc_cons rfl (oc_cons rfl (oc_cons rfl (oc_cons rfl oc_nil))))) bQ) ?_
     clear hF hS; rintro _ _ _ a w ⟨rfl, rfl, rfl⟩ hF hS
     refine ⟨⟨iQ, iQ, iQ, iQ, iQ, iQ, iQ, trivial⟩, ?_⟩
     exact goW_done kQ (j1_mk b_3_10 (trivial) (hF.sub (L' := [(0, _), (2, _), (3, _)]) ⟨rfl, rfl, rfl, trivial⟩) hS)
   ·refine stepW_ef _ rfl rfl hF hS rfl (ef_allocA ty102) ?_
    clear hF hS; rintro _ _ _ a w ⟨b_3_10, rfl, rfl, rfl⟩ hF hS
    refine ⟨⟨.inr hS.k0, .inr hS.k0, .inr hS.k0, .inr hS.k0, .inr hS.k0, .inr hS.k0, trivial⟩, ?_⟩
    refine gQ 2 rfl rfl hF hS rfl (ef_qt (q_call fn79 rfl (fun w hS => number_ct _ (by first | (rw [List.length_drop, List.length_take]; omega) | (rw [List.length_take]; omega)) w ) (fun _ _ _ h => h))) ?_
    clear hF hS; rintro _ _ _ a w ⟨rfl, rfl, rfl⟩ hF hS
    refine ⟨⟨.inr hS.k0, .inr hS.k0, .inr hS.k0, .inr hS.k0, iQ, iQ, trivial⟩, ?_⟩
    refine gQ 5 rfl rfl hF hS rfl (ef_qt (q_call fn79 rfl (fun w hS => number_ct _ (by first | (rw [List.length_drop, List.length_take]; omega) | (rw [List.length_take]; omega)) w ) (fun _ _ _ h => h))) ?_
    clear hF hS; rintro _ _ _ a w ⟨rfl, rfl, rfl⟩ hF hS
    refine ⟨⟨.inr hS.k0, .inr hS.k0, iQ, iQ, iQ, iQ, trivial⟩, ?_⟩
    refine gQ 8 rfl rfl hF hS rfl (ef_qt (q_call fn79 rfl (fun w hS => number_ct _ (by first | (rw [List.length_drop, List.length_take]; omega) | (rw [List.length_take]; omega)) w ) (fun _ _ _ h => h))) ?_
    clear hF hS; rintro _ _ _ a w ⟨rfl, rfl, rfl⟩ hF hS
    refine ⟨⟨iQ, iQ, iQ, iQ, iQ, iQ, trivial⟩, ?_⟩
    refine goW_take 9 _ rfl kQ rfl hF (hS.keep sQ zQ) (q_buildP (places := [(0, 1), (1, 1), (2, 1), (3, 1), (4, 1)]) (cells := [_, _, _, .string ⟨(List.nil : List UInt8).toArray⟩, _]) ty102 kQ rfl (by rfl)) ?_
    clear hF; intro a hF
    refine gQ 11 rfl rfl hF hS rfl (ef_storeW ty102 0 rfl rfl rfl rfl bQ (oc_cons rfl (oc_cons rfl (oc_cons rfl (oc_cons rfl (oc_cons rfl oc_nil))))) bQ) ?_
    clear hF hS; rintro _ _ _ a w ⟨rfl, rfl, rfl⟩ hF hS
    refine ⟨⟨iQ, iQ, iQ, iQ, iQ, iQ, iQ, trivial⟩, ?_⟩
    exact goW_done kQ (j1_mk b_3_10 (trivial) (hF.sub (L' := [(0, _), (2, _), (3, _)]) ⟨rfl, rfl, rfl, trivial⟩) hS)
  rintro a w ⟨b_3_10, -, hF, hS⟩
  (try dsimp only at hF); (try dsimp only at hS)
  replace hS : St _ [] [.blk b_3_10 102 [vi (Jn.num s : Int), vi (Jn.par s : Int), vi (Jn.lft s : Int), vs [], .bool true], _] _ := hS
  obtain ⟨hnr, hpr, hlr⟩ := Jn.rng s
  have hin := Jn.inn_le s
  refine hK5 _ _ ?_
  clear hK5
  refine wp_seq_k ?_; intro K6 hK6
  refine wp_seq_k ?_; intro K7 hK7
  refine regl ?_
  refine wpl_sq hF hS (sq rfl (q_move rfl) <|
    sq rfl (q_sl_s_hi ty9 rfl rfl (by omega)) <|
    sq_end) ?_
  clear hF hS; intro a w hF hS
  refine wpl_ef hF hS rfl (ef_s2b ty9 ty81 ty5 rfl (by omega)) ?_
  clear hF hS; rintro v2 _ _ a w ⟨z3, rfl, rfl, hz4⟩ hF hS
  refine wpl_sq hF hS (sq rfl (q_call fn80 rfl (fun w hS => checked_ct _ _ (by first | (rw [List.length_drop, List.length_take]; omega) | (rw [List.length_take]; omega)) w (Sl.mono (hS.le (.inr (by simp))) hz4) (hS.ext _ _ hg0)) (fun _ _ _ h => h)) <|
    sq rfl (q_move rfl) <|
    sq rfl (q_nes rfl rfl) <|
    sq rfl (q_move rfl) <|
    sq_end) ?_
  clear hF hS; intro a w hF hS
  refine wpl_or 6 26 3 hF hS rfl rfl rfl rfl rfl (fun hg => have hg := (nd_false hg); sq_go 26 rfl rfl rfl (q_fieldAddr ty102 rfl rfl (s' := 0) kQ) <|
    sq_go 26 rfl rfl rfl (q_ld_blk1 ty3 0 rfl rfl rfl rfl) <|
    sq_go 26 rfl rfl rfl (q_lti rfl rfl) <|
    sq_end) rfl rfl ?_
  clear hF hS; intro a w hF hS
  refine wpl_sq hF hS (sq rfl (q_move rfl) <|
    sq_end) ?_
  clear hF hS; intro a w hF hS
  refine wpl_or 11 31 3 hF hS rfl rfl rfl rfl rfl (fun hg => have hg := hg; sq_go 31 rfl rfl rfl (q_fieldAddr ty102 rfl rfl (s' := 0) kQ) <|
    sq_go 31 rfl rfl rfl (q_ld_blk1 ty3 0 rfl rfl rfl rfl) <|
    sq_go 31 rfl rfl rfl (q_gti rfl rfl) <|
    sq_end) rfl rfl ?_
  clear hF hS; intro a w hF hS
  refine wpl_sq hF hS (sq rfl (q_move rfl) <|
    sq_end) ?_
  clear hF hS; intro a w hF hS
  refine wpl_or 16 36 7 hF hS rfl rfl rfl rfl rfl (fun hg => have hg := hg; sq_go 36 rfl rfl rfl (q_fieldAddr ty102 rfl rfl (s' := 0) kQ) <|
    sq_go 36 rfl rfl rfl (q_ld_blk1 ty3 0 rfl rfl rfl rfl) <|
    sq_go 36 rfl rfl rfl (q_muli rfl rfl (by omega)) <|
    sq_go 36 rfl rfl rfl (q_fieldAddr ty102 rfl rfl (s' := 0) kQ) <|
    sq_go 36 rfl rfl rfl (q_ld_blk1 ty3 0 rfl rfl rfl rfl) <|
    sq_go 36 rfl rfl rfl (q_addi rfl rfl (by omega)) <|
    sq_go 36 rfl rfl rfl (q_gti rfl rfl) <|
    sq_end) rfl rfl ?_
  clear hF hS; intro a w hF hS
  refine wpl_sq hF hS (sq rfl (q_move rfl) <|
    sq_end) ?_
  clear hF hS; intro a w hF hS
  refine wpl_orG (q := (decide ((Jn.lft s : Int) < 1) && decide ((0 : Int) < (Jn.par s : Int)))) 45 8 hF hS rfl (by rfl) rfl (fun _ => sq_skip 45 rfl rfl rfl rfl <|
    sq_skip 45 rfl rfl rfl rfl <|
    sq_skip 45 rfl rfl rfl rfl <|
    sq_skip 45 rfl rfl rfl rfl <|
    sq_skipu 49 rfl rfl rfl <|
    sq_skipu 49 rfl rfl rfl <|
    sq_skipu 49 rfl rfl rfl <|
    sq_skip 45 rfl rfl rfl rfl <|
    sq_end) rfl (fun hg a w hF hS KG => ?_) ?_
  ·have hg := hg
   refine wpl_sq hF hS (sq_go 45 rfl rfl rfl (q_fieldAddr ty102 rfl rfl (s' := 0) kQ) <|
     sq_go 45 rfl rfl rfl (q_ld_blk1 ty3 0 rfl rfl rfl rfl) <|
     sq_go 45 rfl rfl rfl (q_lti rfl rfl) <|
     sq_go 45 rfl rfl rfl (q_move rfl) <|
     sq_end) ?_
   clear hF hS; intro a w hF hS
   refine wpl_andP 29 49 3 25 45 hF hS rfl rfl rfl rfl rfl rfl rfl (fun hg2 => have hg2 := (by first | exact of_decide_eq_true hg2 | exact hg2); sq_go 49 rfl rfl rfl (q_fieldAddr ty102 rfl rfl (s' := 0) kQ) <|
     sq_go 49 rfl rfl rfl (q_ld_blk1 ty3 0 rfl rfl rfl rfl) <|
     sq_go 49 rfl rfl rfl (q_gti rfl rfl) <|
     sq_end) rfl rfl ?_
   clear hF hS; intro a w hF hS
   refine wpl_sq hF hS (sq rfl (q_pick_f rfl rfl) <|
     sq_end) ?_
   clear hF hS; intro a w hF hS
   exact KG _ _ (hF.under 5 rfl rfl) hS
  clear hF hS; intro a w hF hS
  refine wpList_nil ?_
  refine hK7 _ _ ?_
  clear hK7
  refine wp_if hF rfl (fun hc2 => ?_) (fun hc2 => ?_)
  ·(try simp only [Bool.or_eq_true, Bool.and_eq_true, Bool.or_eq_false_iff, Bool.and_eq_false_iff, decide_eq_true_eq, decide_eq_false_iff_not, Bool.not_eq_true', Bool.not_eq_false'] at hc2)
   refine wp_seq_k ?_; intro K8 hK8
   refine regl ?_
   refine wpl_sq hF hS (sq rfl (q_buildP (places := [(0, 1), (1, 1), (2, 1), (3, 1), (4, 1)]) (cells := [.int .i64 0, .int .i64 0, .int .i64 0, .string ⟨(List.nil : List UInt8).toArray⟩, .bool false]) ty102 kQ rfl (by rfl)) <|
     sq_end) ?_
   clear hF hS; intro a w hF hS
   refine wpl_ef hF hS rfl (ef_storeW ty102 1 rfl rfl rfl rfl bQ (oc_cons rfl (oc_cons rfl (oc_cons rfl (oc_cons rfl (oc_cons rfl oc_nil))))) bQ) ?_
   clear hF hS; rintro _ _ _ a w ⟨rfl, rfl, rfl⟩ hF hS
   replace hS : St _ [_] [_, _] _ := hS
   refine wpList_nil ?_
   refine hK8 _ _ ?_
   clear hK8
   refine wp_ret ?_
   exact fn_ret (rs := [.cell 2 102]) rfl hF hS (vs := [_]) ⟨⟨_, _, _, _, _, _, _, rfl, List.mem_of_getElem? (i := 1) rfl, ty102, .inl ⟨rfl, bQ, rfl⟩⟩, trivial⟩ zQ zQ (by rw [Jn.unp_bad (Jn.rbad_of hc2)]; rfl)
  ·(try simp only [Bool.or_eq_true, Bool.and_eq_true, Bool.or_eq_false_iff, Bool.and_eq_false_iff, decide_eq_true_eq, decide_eq_false_iff_not, Bool.not_eq_true', Bool.not_eq_false'] at hc2)
   refine wp_skip ?_
   refine hK6 _ _ ?_
   clear hK6
   refine wp_seq_k ?_; intro K9 hK9
   refine reg hF hS (sq rfl (q_fieldAddr ty102 rfl rfl (s' := 0) kQ) <|
     sq rfl (q_ld_blk1 ty3 0 rfl rfl rfl rfl) <|
     sq rfl (q_assign rfl) <|
     sq_end) ?_
   clear hF hS; intro a w hF hS
   refine hK9 _ _ ?_
   clear hK9
   obtain ⟨hs0, hhs0, hS⟩ : ∃ h, h = _ ∧ St _ _ h _ := ⟨_, rfl, hS⟩
   refine wp_cutx (γ := Int) (fun (m : Int) => [(4, vi m)]) [(0, _), (2, _), (3, _)] (fun (m : Int) => hs0) (fun (m : Int) => m = (Jn.inn s : Int)) (hF.sub ⟨rfl, rfl, rfl, trivial⟩) hS ?_ ?_
   ·subst hhs0
    refine wp_seq_k ?_; intro K10 hK10
    refine reg hF hS (sq rfl (q_move rfl) <|
      sq rfl (q_gti rfl rfl) <|
      sq_end) ?_
    clear hF hS; intro a w hF hS
    refine hK10 _ _ ?_
    clear hK10
    refine wp_ifd hF rfl (fun hc3 => ?_) (fun hc3 => ?_)
    ·refine reg hF hS (sq rfl (q_assign rfl) <|
       sq_end) ?_
     clear hF hS; intro a w hF hS
     refine ⟨(48), ?_, hF.sub ⟨rfl, rfl, rfl, rfl, trivial⟩, ?_⟩
     ·unfold Jn.inn; omega
     ·exact hS
    ·refine wp_skip ?_
     refine ⟨((Jn.lft s : Int)), ?_, hF.sub ⟨rfl, rfl, rfl, rfl, trivial⟩, ?_⟩
     ·unfold Jn.inn; omega
     ·exact hS
   clear hF hS; rintro m a w hfact hF hS
   subst hhs0; (try dsimp only at hfact); (try dsimp only at hF); (try dsimp only at hS)
   have hm := hfact
   replace hS : St _ [_] [_, _] _ := hS
   refine wp_seq_k ?_; intro K11 hK11
   refine wp_seq_k ?_; intro K12 hK12
   refine reg hF hS (sq rfl (q_move rfl) <|
     sq rfl (q_addi rfl rfl (by omega)) <|
     sq rfl (q_assign rfl) <|
     sq_end) ?_
   clear hF hS; intro a w hF hS
   refine hK12 _ _ ?_
   clear hK12
   refine wp_block ?_
   obtain ⟨hs0, hhs0, hS⟩ : ∃ h, h = _ ∧ St _ _ h _ := ⟨_, rfl, hS⟩
   refine wp_loopx (γ := Nat) (8 + Jn.inn s) (fun (k : Nat) => [(5, vi (k : Int))]) [(0, _), (2, _), (3, _), (4, _)] (fun (k : Nat) => hs0) (fun (k : Nat) => (8 + Jn.inn s ≤ k ∧ k ≤ 56) ∧ ∀ j, 8 + Jn.inn s ≤ j → j < k → s.getD j 0 = 0) (fun (k : Nat) => 56 - k) (hF.sub ⟨(by show some (vi _) = some (vi _); congr 2; omega), rfl, rfl, rfl, rfl, trivial⟩) (by subst hhs0; exact hS) (by exact ⟨by omega, fun j h1 h2 => absurd h2 (by omega)⟩) ?_
   clear hF hS; rintro k a w hfact hF hS
   subst hhs0; (try dsimp only at hfact); (try dsimp only at hF); (try dsimp only at hS)
   obtain ⟨hk0, hz⟩ := hfact
   replace hS : St _ [_] [_, _] _ := hS
   refine wp_seq_k ?_; intro K13 hK13
   refine wp_seq_k ?_; intro K14 hK14
   refine reg hF hS (sq rfl (q_move rfl) <|
     sq rfl (q_lti rfl rfl) <|
     sq_end) ?_
   clear hF hS; intro a w hF hS
   refine hK14 _ _ ?_
   clear hK14
   refine wp_ifd hF rfl (fun hc4 => ?_) (fun hc4 => ?_)
   ·refine wp_skip ?_
    refine hK13 _ _ ?_
    clear hK13
    refine wp_seq_k ?_; intro K15 hK15
    refine wp_block ?_
    refine wp_seq_k ?_; intro K16 hK16
    refine reg hF hS (sq rfl (q_move rfl) <|
      sq rfl (q_move rfl) <|
      sq rfl (q_idx_s ty9 rfl rfl (by omega)) <|
      sq rfl (q_neb (q := 0) rfl rfl) <|
      sq_end) ?_
    clear hF hS; intro a w hF hS
    refine hK16 _ _ ?_
    clear hK16
    refine wp_ifn hF rfl (fun hc5 => ?_) (fun hc5 => ?_)
    ·refine wp_seq_k ?_; intro K17 hK17
     refine regl ?_
     refine wpl_sq hF hS (sq rfl (q_buildP (places := [(0, 1), (1, 1), (2, 1), (3, 1), (4, 1)]) (cells := [.int .i64 0, .int .i64 0, .int .i64 0, .string ⟨(List.nil : List UInt8).toArray⟩, .bool false]) ty102 kQ rfl (by rfl)) <|
       sq_end) ?_
     clear hF hS; intro a w hF hS
     refine wpl_ef hF hS rfl (ef_storeW ty102 1 rfl rfl rfl rfl bQ (oc_cons rfl (oc_cons rfl (oc_cons rfl (oc_cons rfl (oc_cons rfl oc_nil))))) bQ) ?_
     clear hF hS; rintro _ _ _ a w ⟨rfl, rfl, rfl⟩ hF hS
     replace hS : St _ [_] [_, _] _ := hS
     refine wpList_nil ?_
     refine hK17 _ _ ?_
     clear hK17
     refine wp_ret ?_
     exact fn_ret (rs := [.cell 2 102]) rfl hF hS (vs := [_]) ⟨⟨_, _, _, _, _, _, _, rfl, List.mem_of_getElem? (i := 1) rfl, ty102, .inl ⟨rfl, bQ, rfl⟩⟩, trivial⟩ zQ zQ (by rw [Jn.unp_bad (Jn.zero_not (k := k) h64 (by omega) (by omega) (by simpa using hc5))]; rfl)
    ·refine wp_skip ?_
     refine hK15 _ _ ?_
     clear hK15
     refine reg hF hS (sq rfl (q_move rfl) <|
       sq rfl (q_addi rfl rfl (by omega)) <|
       sq rfl (q_assign rfl) <|
       sq_end) ?_
     clear hF hS; intro a w hF hS
     refine ⟨(k + 1), ?_, ?_, hF.sub ⟨rfl, rfl, rfl, rfl, rfl, trivial⟩, ?_⟩
     ·(try dsimp only); omega
     ·exact ⟨by omega, Jn.z_step2 hz (by simpa using hc5)⟩
     ·exact hS
   ·refine wp_exit ?_
    refine hK11 _ _ ?_
    clear hK11
    refine wp_seq_k ?_; intro K18 hK18
    refine regl ?_
    refine wpl_sq hF hS (sq rfl (q_move rfl) <|
      sq rfl (q_move rfl) <|
      sq rfl (q_addi rfl rfl (by omega)) <|
      sq rfl (q_sl_s ty9 rfl rfl rfl (by omega)) <|
      sq rfl (q_fieldAddr ty102 rfl rfl (s' := 0) kQ) <|
      sq_end) ?_
    clear hF hS; intro a w hF hS
    refine wpl_ef hF hS rfl (ef_store1 ty9 0 rfl rfl rfl rfl (by simp)) ?_
    clear hF hS; rintro _ _ _ a w ⟨rfl, rfl, rfl⟩ hF hS
    replace hS : St _ [_] [.blk _ _ ([_, _, _, _, _].set 3 _), _] _ := hS
    simp only [List.set_cons_zero, List.set_cons_succ] at hS
    replace hS : St _ [_] [_, _] _ := hS
    refine wpList_nil ?_
    refine hK18 _ _ ?_
    clear hK18
    refine wp_seq_k ?_; intro K19 hK19
    refine regl ?_
    refine wpl_sq hF hS (sq rfl (q_ld_blkW ty102 0 rfl rfl bQ rfl) <|
      sq_end) ?_
    clear hF hS; intro a w hF hS
    refine wpl_ef hF hS rfl (ef_storeW ty102 1 rfl rfl rfl rfl bQ (oc_cons rfl (oc_cons rfl (oc_cons rfl (oc_cons rfl (oc_cons rfl oc_nil))))) bQ) ?_
    clear hF hS; rintro _ _ _ a w ⟨rfl, rfl, rfl⟩ hF hS
    replace hS : St _ [_] [_, _] _ := hS
    refine wpList_nil ?_
    refine hK19 _ _ ?_
    clear hK19
    refine wp_ret ?_
    exact fn_ret (rs := [.cell 2 102]) rfl hF hS (vs := [_]) ⟨⟨_, _, _, _, _, _, _, rfl, List.mem_of_getElem? (i := 1) rfl, ty102, .inl ⟨rfl, bQ, rfl⟩⟩, trivial⟩ zQ zQ (by rw [Jn.unp_good (Jn.rgood_of h64 hc2 (fun j h1 h2 => hz j h1 (by omega))), hm, show (8 + (Jn.inn s : Int)).toNat = 8 + Jn.inn s by omega]; rfl)
end Go.Proofs.YtibbhobfdbfkkaaGreatDoor
end

section
namespace Go.Proofs.YtibbhobfdbfkkaaGreatDoor
open Go.Fw
theorem fn16 : FnOk Tryz.prog 16 := ⟨_, Tryz.func16, rfl, by kernel_rfl⟩
theorem fn74 : FnOk Tryz.prog 74 := ⟨_, Tryz.func74, rfl, by kernel_rfl⟩
theorem fn90 : FnOk Tryz.prog 90 := ⟨_, Tryz.func90, rfl, by kernel_rfl⟩
theorem fn91 : FnOk Tryz.prog 91 := ⟨_, Tryz.func91, rfl, by kernel_rfl⟩

attribute [local irreducible] Sha.sum Jn.good Jn.hd Jn.lb

set_option maxRecDepth 4000 in
set_option maxHeartbeats 2000000 in
theorem parts_ct (n : Int) (t : List UInt8) (w : World) : Ct Tryz.prog 74 [vi n, vs t] w (fun r zs hs => ∃ b1 b2, r = .func (.func 90) (List.nil : List Value).toArray [Value.pointer (some ⟨b1, 0, none⟩), Value.pointer (some ⟨b2, 0, none⟩)].toArray ∧ zs = [] ∧ hs = [.blk b1 9 [vs t], .blk b2 3 [vi n]]) := by
 refine fn_enter Tryz.func74 rfl Tryz.ntmps74 (Nat.le_of_ble_eq_true rfl) fun a hF hS => ?_
 refine wp_seq_k ?_; intro K1 hK1
 refine regl ?_
 refine wpl_ef hF hS rfl (ef_box1 rfl rfl) ?_
 clear hF hS; rintro _ _ _ a w ⟨b1, rfl, rfl, rfl⟩ hF hS
 refine wpl_ef hF hS rfl (ef_box1 rfl rfl) ?_
 clear hF hS; rintro _ _ _ a w ⟨b2, rfl, rfl, rfl⟩ hF hS
 refine wpl_sq hF hS (sq rfl (q_assign rfl) <|
   sq_end) ?_
 clear hF hS; intro a w hF hS
 refine wpList_nil ?_
 refine hK1 _ _ ?_
 clear hK1
 refine wp_seq_k ?_; intro K2 hK2
 refine reg hF hS (sq rfl (q_mkf rfl rfl) <|
   sq rfl (q_assign rfl) <|
   sq_end) ?_
 clear hF hS; intro a w hF hS
 refine hK2 _ _ ?_
 clear hK2
 refine wp_ret ?_
 exact fn_ret (rs := [.tmp 4]) rfl hF hS (vs := [_]) ⟨rfl, trivial⟩ sQ sQ ⟨_, _, rfl, rfl, rfl⟩

set_option maxRecDepth 4000 in
set_option maxHeartbeats 2000000 in
theorem parts1_ct (x1 x2 : Nat) (t : List UInt8) (n : Nat) (hn : n < 9223372036854775808) (ht : t.length ≤ 8000) (Y : Value) (w0 : World) (zsr : List PH) (hsr : List Res) (inv : Nat → Res × Res → Prop) (ra rb : Res) {fz0 : Nat × Nat} {bt0 : TypeId} (hg0 : w0.heap[2]? = some (.cells (Sha.kc.map vw).toArray bt0 fz0)) (h0 : inv 0 (ra, rb)) (hY : ∀ k r, k < (Jn.cnt t.length).toNat → inv k r → YdL Tryz.prog Y (Jn.ptV n t k) (St w0 zsr (.blk x1 9 [vs t] :: .blk x2 3 [vi (n : Int)] :: r.1 :: r.2 :: hsr)) fun w' => ∃ r', inv (k + 1) r' ∧ St w0 zsr (.blk x1 9 [vs t] :: .blk x2 3 [vi (n : Int)] :: r'.1 :: r'.2 :: hsr) w') : CxH Tryz.prog 90 [Y, Value.pointer (some ⟨x1, 0, none⟩), Value.pointer (some ⟨x2, 0, none⟩)] w0 zsr [.blk x1 9 [vs t], .blk x2 3 [vi (n : Int)], ra, rb] hsr (fun _ zs1 hs1 => zs1 = [] ∧ ∃ r : Res × Res, hs1 = [.blk x1 9 [vs t], .blk x2 3 [vi (n : Int)], r.1, r.2] ∧ inv (Jn.cnt t.length).toNat r) := by
 refine fn_enterh Tryz.func90 rfl Tryz.ntmps90 (Nat.le_of_ble_eq_true rfl) fun a w hF hS => ?_
 replace hS : St _ (_) (_ :: _ :: _ :: _ :: _) _ := hS
 have hcr := Jn.cnt_rng t.length
 have hsl : ∀ t, (Sha.sum t).length = 32 := Sha.sum_len
 refine wp_seq_k ?_; intro K1 hK1
 refine reg hF hS (sq rfl (q_ld_blk1 ty9 0 rfl rfl rfl rfl) <|
   sq rfl (q_len_s ty9 rfl) <|
   sq rfl (q_call fn16 rfl (fun w hS => count_ct _ (by first | assumption | omega) w ) (fun _ _ _ h => h)) <|
   sq rfl (q_move rfl) <|
   sq_end) ?_
 clear hF hS; intro a w hF hS
 refine hK1 _ _ ?_
 clear hK1
 refine wp_block ?_
 obtain ⟨hs0, hhs0, hS⟩ : ∃ h, h = _ ∧ St _ _ h _ := ⟨_, rfl, hS⟩
 refine wp_loopx (γ := (Res × Res) × Nat) ((ra, rb), 0) (fun (gg : (Res × Res) × Nat) => match gg with | (rr, k) => [(11, vi (k : Int))]) [(0, _), (1, _), (2, _), (10, _)] (fun (gg : (Res × Res) × Nat) => match gg with | (rr, k) => ((hs0.set 2 (rr.1)).set 3 (rr.2))) (fun (gg : (Res × Res) × Nat) => match gg with | (rr, k) => k ≤ (Jn.cnt t.length).toNat ∧ inv k rr) (fun (gg : (Res × Res) × Nat) => match gg with | (rr, k) => (Jn.cnt t.length).toNat - k) (hF.sub ⟨rfl, rfl, rfl, rfl, rfl, trivial⟩) (by subst hhs0; exact hS) (by exact ⟨Nat.zero_le _, h0⟩) ?_
 clear hF hS; rintro ⟨rr, k⟩ a w hfact hF hS
 subst hhs0; (try dsimp only at hfact); (try dsimp only at hF); (try dsimp only at hS)
 obtain ⟨hk0, hin⟩ := hfact
 replace hS : St _ (_) (_ :: _ :: _ :: _ :: _) _ := hS
 have hch := Jn.cnt_hi (n := t.length) (by omega)
 refine wp_seq_k ?_; intro K2 hK2
 refine reg hF hS (sq rfl (q_lti rfl rfl) <|
   sq_end) ?_
 clear hF hS; intro a w hF hS
 refine hK2 _ _ ?_
 clear hK2
 refine wp_seq_k ?_; intro K3 hK3
 refine wp_ifd hF rfl (fun hc1 => ?_) (fun hc1 => ?_)
 ·refine wp_skip ?_
  refine hK3 _ _ ?_
  clear hK3
  refine wp_seq_k ?_; intro K4 hK4
  refine wp_block ?_
  refine wp_seq_k ?_; intro K5 hK5
  refine reg hF hS (sq rfl (q_move rfl) <|
    sq rfl (q_assign rfl) <|
    sq_end) ?_
  clear hF hS; intro a w hF hS
  refine hK5 _ _ ?_
  clear hK5
  refine wp_seq_k ?_; intro K6 hK6
  refine regl ?_
  refine wpl_ef hF hS rfl (ef_allocA ty96) ?_
  clear hF hS; rintro _ _ _ a w ⟨b1, rfl, rfl, rfl⟩ hF hS
  rw [show List.replicate 64 (Value.int .u8 0) = (List.replicate 64 (0 : UInt8)).map vb from by rw [List.map_replicate] <;> rfl] at hS
  refine wpList_nil ?_
  refine hK6 _ _ ?_
  clear hK6
  refine wp_seq_k ?_; intro K7 hK7
  refine reg hF hS (sq rfl (q_ld_blk1 ty9 1 rfl rfl rfl rfl) <|
    sq rfl (q_move rfl) <|
    sq rfl (q_muli rfl rfl (by omega)) <|
    sq rfl (q_sl_s_lo ty9 rfl rfl (by omega)) <|
    sq rfl (q_assign rfl) <|
    sq_end) ?_
  clear hF hS; intro a w hF hS
  rw [show (48 * (k : Int)).toNat = 48 * k by omega] at hF
  obtain ⟨rest, hrest⟩ : ∃ r, r = List.drop (48 * k) t := ⟨_, rfl⟩
  rw [← hrest] at hF
  have hrl : rest.length ≤ 8000 := by rw [hrest, List.length_drop]; omega
  refine hK7 _ _ ?_
  clear hK7
  refine wp_seq_k ?_; intro K8 hK8
  refine regt 2 mixed kQ hF hS (sq rfl (q_sla_hi ty96 ty5 rfl rfl (by omega)) <|
    sq rfl (q_ld_blk1 ty3 2 rfl rfl rfl rfl) <|
    sq_end) ?_
  clear hF hS; intro a w hF hS
  refine wpl_ef hF hS rfl (ef_callx fn91 rfl (List.Perm.refl _) (by exact (put_ct _ 96 _ _ _ _ (Jn.z 64) (by decide) (by omega) (by first | decide | (simp; done) | (simp [Jn.lb_len, Jn.z]; done)) _ _ ))) ?_
  clear hF hS; rintro _ _ _ a w ⟨_, _, rfl, rfl, ⟨rfl, rfl, rfl⟩⟩ hF hS
  replace hS : St _ (_) (_ :: _ :: _ :: _ :: _ :: _) _ := hS
  refine wpList_nil ?_
  rw [show Jn.pw (Jn.z 64) 0 n (Int.toNat 4) = _ from Jn.mk_1 n] at hS
  refine hK8 _ _ ?_
  clear hK8
  refine wp_seq_k ?_; intro K9 hK9
  refine regl ?_
  refine wpl_sq hF hS (sq rfl (q_sla_lo_hi ty96 ty5 rfl rfl rfl (by omega)) <|
    sq rfl (q_move rfl) <|
    sq_end) ?_
  clear hF hS; intro a w hF hS
  refine wpl_ef hF hS rfl (ef_callx fn91 rfl (List.Perm.refl _) (by exact (put_ct _ 96 _ _ _ _ (Jn.lb n 4 ++ Jn.z 60) (by decide) (by omega) (by first | decide | (simp; done) | (simp [Jn.lb_len, Jn.z]; done)) _ _ ))) ?_
  clear hF hS; rintro _ _ _ a w ⟨_, _, rfl, rfl, ⟨rfl, rfl, rfl⟩⟩ hF hS
  replace hS : St _ (_) (_ :: _ :: _ :: _ :: _ :: _) _ := hS
  refine wpList_nil ?_
  rw [show Jn.pw (Jn.lb n 4 ++ Jn.z 60) (0 + Int.toNat 4 * 1) k (Int.toNat 6 - Int.toNat 4) = _ from Jn.mk_2 n k] at hS
  refine hK9 _ _ ?_
  clear hK9
  refine wp_seq_k ?_; intro K10 hK10
  refine regl ?_
  refine wpl_sq hF hS (sq rfl (q_sla_lo_hi ty96 ty5 rfl rfl rfl (by omega)) <|
    sq rfl (q_move rfl) <|
    sq rfl (q_len_s ty9 rfl) <|
    sq_end) ?_
  clear hF hS; intro a w hF hS
  refine wpl_ef hF hS rfl (ef_callx fn91 rfl (List.Perm.refl _) (by exact (put_ct _ 96 _ _ _ _ (Jn.lb n 4 ++ (Jn.lb k 2 ++ Jn.z 58)) (by decide) (by omega) (by first | decide | (simp; done) | (simp [Jn.lb_len, Jn.z]; done)) _ _ ))) ?_
  clear hF hS; rintro _ _ _ a w ⟨_, _, rfl, rfl, ⟨rfl, rfl, rfl⟩⟩ hF hS
  replace hS : St _ (_) (_ :: _ :: _ :: _ :: _ :: _) _ := hS
  refine wpList_nil ?_
  rw [show Jn.pw (Jn.lb n 4 ++ (Jn.lb k 2 ++ Jn.z 58)) (0 + Int.toNat 6 * 1) rest.length (Int.toNat 8 - Int.toNat 6) = _ from Jn.mk_3 n k rest.length] at hS
  refine hK10 _ _ ?_
  clear hK10
  refine wp_seq_k ?_; intro K11 hK11
  refine regl ?_
  refine wpl_sq hF hS (sq rfl (q_sla_lo_hi ty96 ty5 rfl rfl rfl (by omega)) <|
    sq rfl (q_move rfl) <|
    sq_end) ?_
  clear hF hS; intro a w hF hS
  refine wpl_ef hF hS rfl (ef_copyO ty81 ty5 0 rfl rfl rfl (by simp [Jn.lb_len, Jn.z])) ?_
  clear hF hS; rintro _ _ _ a w ⟨rfl, rfl, rfl⟩ hF hS
  replace hS : St _ (_) (_ :: _ :: _ :: _ :: _ :: _) _ := hS
  refine wpList_nil ?_
  rw [show List.take (0 + Int.toNat 8 * 1) (Jn.lb n 4 ++ (Jn.lb k 2 ++ (Jn.lb rest.length 2 ++ Jn.z 56))) ++ List.take (min rest.length (Int.toNat 56 - Int.toNat 8)) rest ++ List.drop (0 + Int.toNat 8 * 1 + min rest.length (Int.toNat 56 - Int.toNat 8)) (Jn.lb n 4 ++ (Jn.lb k 2 ++ (Jn.lb rest.length 2 ++ Jn.z 56))) = _ from Jn.mk_4 n k rest] at hS
  have hhl : (Jn.hd n k rest ++ Jn.z 8).length = 64 := by rw [List.length_append, Jn.hd_len]; rfl
  refine hK11 _ _ ?_
  clear hK11
  refine wp_seq_k ?_; intro K12 hK12
  refine regl ?_
  refine wpl_sq hF hS (sq rfl (q_sla_hi ty96 ty5 rfl rfl (by omega)) <|
    sq rfl (q_call fn75 rfl (fun w hS => sum_ct _ _ (by rw [List.length_drop, List.length_take]; omega) w (blk_slO hS 0 rfl (by first | omega | (simp; omega) | (simp [*]; done) | (simp [*]; omega))) (hS.ext _ _ hg0)) (fun _ _ _ h => h)) <|
    sq_end) ?_
  clear hF hS; intro a w hF hS
  refine wpl_ef hF hS rfl (ef_allocA ty125) ?_
  clear hF hS; rintro _ _ _ a w ⟨b5, rfl, rfl, rfl⟩ hF hS
  rw [show List.replicate 32 (Value.int .u8 0) = (List.replicate 32 (0 : UInt8)).map vb from by rw [List.map_replicate] <;> rfl] at hS
  refine wpl_ef hF hS rfl (ef_storeW ty125 0 rfl rfl rfl rfl bQ oQ bQ) ?_
  clear hF hS; rintro _ _ _ a w ⟨rfl, rfl, rfl⟩ hF hS
  replace hS : St _ (_) (_ :: _ :: _ :: _ :: _ :: _ :: _) _ := hS
  refine wpList_nil ?_
  rw [show List.drop 0 (List.take (0 + Int.toNat 56) (Jn.hd n k rest ++ Jn.z 8)) = _ from Jn.mk_5 n k rest] at hS
  refine hK12 _ _ ?_
  clear hK12
  refine wp_seq_k ?_; intro K13 hK13
  refine regt 2 mixed kQ hF hS (sq rfl (q_sla_lo ty96 ty5 rfl rfl (by omega)) <|
    sq rfl (q_sla ty125 ty5 rfl) <|
    sq_end) ?_
  clear hF hS; intro a w hF hS
  refine wpl_ef hF hS rfl (ef_copyBB ty81 ty5 1 0 rfl rfl rfl rfl (by rw [hhl]; decide) (by decide) (by rw [Sha.sum_len]; decide)) ?_
  clear hF hS; rintro _ _ _ a w ⟨rfl, rfl, rfl⟩ hF hS
  replace hS : St _ (_) (_ :: _ :: _ :: _ :: _ :: _ :: _) _ := hS
  refine wpList_nil ?_
  rw [show List.take (0 + Int.toNat 56 * 1) (Jn.hd n k rest ++ Jn.z 8) ++ List.take (64 - Int.toNat 56) (Sha.sum (Jn.hd n k rest)) ++ List.drop (0 + Int.toNat 56 * 1 + (64 - Int.toNat 56)) (Jn.hd n k rest ++ Jn.z 8) = _ from Jn.mk_6 n k rest, show Jn.chk (Jn.hd n k rest) = Jn.sec n t k by rw [hrest]; unfold Jn.sec; rw [Int.toNat_natCast]] at hS
  have hsc := Jn.sec_len n t k
  refine hK13 _ _ ?_
  clear hK13
  refine wp_seq_k ?_; intro K14 hK14
  refine regY 2 rfl ?_
  refine wpl_sq hF hS (sq rfl (q_move rfl) <|
    sq rfl (q_ld_blkW ty96 1 rfl rfl bQ rfl) <|
    sq_end) ?_
  clear hF hS; intro a w hF hS
  refine listR ?_
  ·skip
   replace hS := hS.keep sQ (sQ.n.n)
   have hyd := hY k rr (by omega) hin
   refine ycallL (ys := [_]) (by rfl) rfl hF hS rfl rfl hyd ?_
   clear hF hS; rintro a w hF ⟨r2, hin2, hS⟩
   refine yseg rfl hF hS (sq rfl (q_not rfl) <| sq_end) ?_
   clear hF hS; intro a w hF hS
   refine wpListIn_nil ?_
   refine hK14 _ _ ?_
   clear hK14
   refine wp_if hF rfl (fun h => absurd h (by simp)) (fun _ => ?_)
   refine wp_skip ?_
   refine hK4 _ _ ?_
   clear hK4
   refine reg hF hS (sq rfl (q_addi rfl rfl (by omega)) <|
     sq rfl (q_move rfl) <|
     sq_end) ?_
   clear hF hS; intro a w hF hS
   refine ⟨(r2, k + 1), ?_, ?_, hF.sub ⟨rfl, rfl, rfl, rfl, rfl, trivial⟩, ?_⟩
   ·(try dsimp only); omega
   ·exact ⟨by omega, hin2⟩
   ·exact hS
 ·refine wp_exit ?_
  -- falls off the end
  obtain rfl : k = (Jn.cnt t.length).toNat := by omega
  exact fn_fallx rfl hF hS [] [_, _, _, _] sQ sQ ⟨rfl, _, rfl, hin⟩

set_option maxRecDepth 4000 in
set_option maxHeartbeats 2000000 in
theorem pack_ct (n : Int) (t : List UInt8) (hn : -9223372036854775808 ≤ n ∧ n ≤ 9223372036854775807) (w : World) {fz0 : Nat × Nat} {bt0 : TypeId} (hg0 : w.heap[2]? = some (.cells (Sha.kc.map vw).toArray bt0 fz0)) : Ct Tryz.prog 40 [vi n, vs t] w (Jn.PkR 9 (Jn.pack n t)) := by
 refine fn_enterM Tryz.func40 rfl Tryz.ntmps40 (Nat.le_of_ble_eq_true rfl) fun a hF hS => ?_
 have hcr := Jn.cnt_rng t.length
 refine wp_seq_k ?_; intro K1 hK1
 refine reg hF hS (sq rfl (q_assign rfl) <|
   sq rfl (q_assign rfl) <|
   sq_end) ?_
 clear hF hS; intro a w hF hS
 refine hK1 _ _ ?_
 clear hK1
 refine wp_seq_k ?_; intro K2 hK2
 refine wp_block ?_
 refine wp_seq_k ?_; intro K3 hK3
 refine regl ?_
 refine wpl_sq hF hS (sq rfl (q_move rfl) <|
   sq rfl (q_lti rfl rfl) <|
   sq rfl (q_move rfl) <|
   sq_end) ?_
 clear hF hS; intro a w hF hS
 refine wpl_or 2 11 2 hF hS rfl rfl rfl rfl rfl (fun hg => have hg := (by first | exact of_decide_eq_false hg | exact hg); sq_go 11 rfl rfl rfl (q_move rfl) <|
   sq_go 11 rfl rfl rfl (q_gti rfl rfl) <|
   sq_end) rfl rfl ?_
 clear hF hS; intro a w hF hS
 refine wpl_sq hF hS (sq rfl (q_assign rfl) <|
   sq_end) ?_
 clear hF hS; intro a w hF hS
 refine wpList_nil ?_
 refine hK3 _ _ ?_
 clear hK3
 refine wp_if hF rfl (fun hc1 => ?_) (fun hc1 => ?_)
 ·(try simp only [Bool.or_eq_true, Bool.and_eq_true, Bool.or_eq_false_iff, Bool.and_eq_false_iff, decide_eq_true_eq, decide_eq_false_iff_not, Bool.not_eq_true', Bool.not_eq_false'] at hc1)
  refine wp_seq_k ?_; intro K4 hK4
  refine reg hF hS (sq rfl (q_assign rfl) <|
    sq rfl (q_assign rfl) <|
    sq_end) ?_
  clear hF hS; intro a w hF hS
  refine hK4 _ _ ?_
  clear hK4
  refine wp_ret ?_
  replace hS := hS.nilRow 9 1
  exact fn_retM (rs := [.tmp 4, .tmp 5]) rfl hF hS (vs := [_, _]) ⟨rfl, rfl, trivial⟩ zQ ((zQ.k)) (Jn.pk_of ⟨_, rfl, rfl, rfl⟩ (by rw [Jn.pack_1 (by omega)]))
 ·(try simp only [Bool.or_eq_true, Bool.and_eq_true, Bool.or_eq_false_iff, Bool.and_eq_false_iff, decide_eq_true_eq, decide_eq_false_iff_not, Bool.not_eq_true', Bool.not_eq_false'] at hc1)
  refine wp_seq_k ?_; intro K5 hK5
  refine reg hF hS (sq rfl (q_move rfl) <|
    sq rfl (q_len_s ty9 rfl) <|
    sq rfl (q_gti rfl rfl) <|
    sq rfl (q_assign rfl) <|
    sq_end) ?_
  clear hF hS; intro a w hF hS
  refine hK5 _ _ ?_
  clear hK5
  refine wp_ifd hF rfl (fun hc2 => ?_) (fun hc2 => ?_)
  ·refine wp_seq_k ?_; intro K6 hK6
   refine reg hF hS (sq rfl (q_assign rfl) <|
     sq rfl (q_assign rfl) <|
     sq_end) ?_
   clear hF hS; intro a w hF hS
   refine hK6 _ _ ?_
   clear hK6
   refine wp_ret ?_
   replace hS := hS.nilRow 9 1
   exact fn_retM (rs := [.tmp 4, .tmp 5]) rfl hF hS (vs := [_, _]) ⟨rfl, rfl, trivial⟩ zQ ((zQ.k)) (Jn.pk_of ⟨_, rfl, rfl, rfl⟩ (by rw [Jn.pack_2 (by omega) (by omega)]))
  ·refine wp_skip ?_
   refine hK2 _ _ ?_
   clear hK2
   refine wp_seq_k ?_; intro K7 hK7
   refine regl ?_
   refine wpl_ef hF hS rfl (ef_alloc1 ty22 (by rfl)) ?_
   clear hF hS; rintro _ _ _ a w ⟨b1, rfl, rfl, rfl⟩ hF hS
   refine wpList_nil ?_
   refine hK7 _ _ ?_
   clear hK7
   refine wp_seq_k ?_; intro K8 hK8
   refine wp_seq_k ?_; intro K9 hK9
   refine regl ?_
   refine wpl_sq hF hS (sq rfl (q_move rfl) <|
     sq rfl (q_move rfl) <|
     sq_end) ?_
   clear hF hS; intro a w hF hS
   refine wpl_ef hF hS rfl (ef_call fn74 rfl (fun w hS => parts_ct _ _ w )) ?_
   clear hF hS; rintro _ _ _ a w ⟨_, _, rfl, rfl, ⟨e1, e2, rfl, rfl, rfl⟩⟩ hF hS
   replace hS : St _ [] [_, _, _] _ := hS
   refine wpList_nil ?_
   refine hK9 _ _ ?_
   clear hK9
   refine wp_block ?_
   obtain ⟨n0, rfl⟩ : ∃ m : Nat, n = (m : Int) := ⟨n.toNat, by omega⟩
   replace hS := hS.nilRow 9 1
   replace hS : St _ [] [_, _, _, _] _ := hS
   replace hS := hS.perm (.swap _ _ _)
   replace hS := hS.perm (.cons _ (.swap _ _ _))
   replace hS := hS.perm (.cons _ (.cons _ (.swap _ _ _)))
   replace hS : St _ [] [_, _, _, _] _ := hS
   obtain ⟨hs0, hhs0, hS⟩ : ∃ h, h = _ ∧ St _ _ h _ := ⟨_, rfl, hS⟩
   obtain ⟨L0, hL0, hF⟩ : ∃ l, l = _ ∧ Fr _ l _ := ⟨_, rfl, hF⟩
   refine wp_rangeH (ps := [22]) (γ := (Res × Res)) (ξ := Nat) (fun r => (hs0.set 2 r.1).set 3 r.2) (fun (k : Nat) (r : Res × Res) => ∃ u, r = (.blk b1 22 [u], .row u 9 1 k ((Jn.secN (n0 : Int) t k).map vs))) ((Jn.cnt t.length).toNat) (fun k => Jn.ptV n0 t k) ((.blk b1 22 [(Value.slice none 0 0)], .row (Value.slice none 0 0) 9 1 0 [])) (fun k r x => (7, Value.pointer (some ⟨x, 0, none⟩)) :: (22, .agg ((Jn.sec (n0 : Int) t k).map vb).toArray) :: L0) (fun k r x => .blk x 96 ((Jn.sec (n0 : Int) t k).map vb) :: (hs0.set 2 r.1).set 3 r.2) hF (by subst hhs0; exact hS) (by subst hL0; rfl) rfl (fun _ => rfl) (fn90) (⟨_, rfl⟩) (fun ro m8 zB zD k9 r9 a w hk9 hi9 hF hS => ?_) (fun Y zs1 hzz hY w hS => ?_) (fun l9 m9 zB zD k9 r9 x9 a w hk9 hi9 hF hS => ?_) (fun I D zD a w r9 hno hI hD hi9 hF hS => ?_)
   ·subst hhs0 hL0
    (try dsimp only [argsL] at hF); (try dsimp only [List.set_cons_zero, List.set_cons_succ] at hS)
    replace hS : St _ [_, _] [_, _, _, _] _ := hS
    obtain ⟨u, rfl⟩ := hi9
    (try dsimp only at hS)
    have hsc := Jn.sec_len (n0 : Int) t k9
    replace hS : St _ [_, _] [_, _, _, _] _ := hS
    refine reglR (by rfl) ?_
    refine wpl_ef hF hS rfl (ef_allocA ty96) ?_
    clear hF hS; rintro _ _ _ a w ⟨b3, rfl, rfl, rfl⟩ hF hS
    rw [show List.replicate 64 (Value.int .u8 0) = (List.replicate 64 (0 : UInt8)).map vb from by rw [List.map_replicate] <;> rfl] at hS
    refine wpl_ef hF hS rfl (ef_storeW ty96 0 rfl rfl rfl rfl bQ oQ bQ) ?_
    clear hF hS; rintro _ _ _ a w ⟨rfl, rfl, rfl⟩ hF hS
    replace hS : St _ [_, _] [_, _, _, _, _] _ := hS
    refine listR ?_
    exact ⟨rfl, b3, hF, hS⟩
   ·subst hhs0 hL0
    exact CxH.full2 (parts1_ct e1 e2 t n0 (by omega) (by omega) Y _ zs1 _ (fun (k : Nat) (r : Res × Res) => ∃ u, r = (.blk b1 22 [u], .row u 9 1 k ((Jn.secN (n0 : Int) t k).map vs))) _ _ hg0 ⟨_, rfl⟩ hY) w hS
   ·subst hhs0 hL0
    (try dsimp only [argsL] at hF); (try dsimp only [List.set_cons_zero, List.set_cons_succ] at hS)
    replace hS : St _ [_, _] [_, _, _, _, _] _ := hS
    obtain ⟨u, rfl⟩ := hi9
    (try dsimp only at hS)
    have hsc := Jn.sec_len (n0 : Int) t k9
    replace hS : St _ [_, _] [_, _, _, _, _] _ := hS
    refine wpIn_block ?_
    revert hS; revert hF; apply regJR (J := J2 (α0 := Value) (α1 := Value) 29 _ _ _ _ _) #[false, false, false, false, false, false] 6 mixed rfl rfl; case hd => rfl
    ·intro w hF hS
     refine goW_take 0 _ rfl kQ rfl hF (hS.keep sQ (zQ.k.n.n.n)) (q_ld_blk1 ty22 0 rfl rfl rfl rfl) ?_
     clear hF; intro a hF
     refine goW_take 1 _ rfl kQ rfl hF (hS.keep sQ (zQ.k)) (q_sla ty96 ty5 rfl) ?_
     clear hF; intro a hF
     refine goW_take 2 _ rfl kQ rfl hF (hS.keep sQ (zQ.k)) (q_b2s_blkM ty81 ty9 ty5 0 rfl rfl bQ) ?_
     clear hF; intro a hF
     refine gQ 3 rfl rfl hF hS rfl (ef_bsliceA ty22 ty9 rfl rfl oQ (by decide) rfl rfl) ?_
     clear hF hS; rintro v_8_3 _ _ a w ⟨rfl, rfl⟩ hF hS
     refine ⟨⟨iQ, iQ, .inr (hS.keep sQ (zQ.k.n.n.n.n)), trivial⟩, ?_⟩
     refine gQ 4 rfl rfl hF hS rfl (ef_append ty22 ty9 5 rfl rfl rfl (src_row ty22 (k := 0) rfl oQ) bQ rfl (by decide)) ?_
     clear hF hS; rintro v_8_4 _ _ a w ⟨rfl, rfl⟩ hF hS
     refine ⟨⟨iQ, iQ, iQ, trivial⟩, ?_⟩
     refine gQ 5 rfl rfl hF hS rfl (ef_store1 ty22 4 rfl rfl rfl (row_one (hS.own _ (List.mem_of_getElem? (i := 5) rfl)).1) (by simp)) ?_
     clear hF hS; rintro _ _ _ a w ⟨rfl, rfl, rfl⟩ hF hS
     (try simp only [List.set_cons_zero, List.set_cons_succ] at hS)
     replace hS : St _ [_, _] [_, _, _, _, _, _] _ := hS
     refine ⟨⟨iQ, iQ, iQ, trivial⟩, ?_⟩
     exact goW_done kQ (j2_mk v_8_3 v_8_4 (trivial) (hF.sub (L' := []) trivial) hS)
    rintro a w ⟨v_8_3, v_8_4, -, hF, hS⟩
    (try dsimp only at hF); (try dsimp only at hS)
    replace hS := hS.perm (.cons _ (.swap _ _ _))
    replace hS := hS.perm (.swap _ _ _)
    replace hS := hS.perm (.cons _ (.cons _ (.swap _ _ _)))
    replace hS := hS.perm (.cons _ (.swap _ _ _))
    replace hS := hS.perm (.cons _ (.cons _ (.cons _ (.swap _ _ _))))
    replace hS := hS.perm (.cons _ (.cons _ (.swap _ _ _)))
    replace hS := hS.perm (.cons _ (.cons _ (.cons _ (.cons _ (.swap _ _ _)))))
    replace hS := hS.perm (.cons _ (.cons _ (.cons _ (.swap _ _ _))))
    rw [Jn.secN_step] at hS
    exact ⟨rfl, (_, _), ⟨_, rfl⟩, hS.keep sQ (sQ.n.n.k.k.k.k)⟩
   subst hhs0 hL0
   (try dsimp only [argsL] at hF); (try dsimp only [List.set_cons_zero, List.set_cons_succ] at hS)
   replace hS : St _ [_] [_, _, _, _] _ := hS
   obtain ⟨u, rfl⟩ := hi9
   (try dsimp only at hS)
   replace hS : St _ [_] [_, _, _, _] _ := hS
   refine hK8 _ _ ?_
   clear hK8
   refine wp_seq_k ?_; intro K10 hK10
   refine reg hF hS (sq rfl (q_ld_blk1 ty22 2 rfl rfl rfl rfl) <|
     sq rfl (q_assign rfl) <|
     sq rfl (q_assign rfl) <|
     sq_end) ?_
   clear hF hS; intro a w hF hS
   refine hK10 _ _ ?_
   clear hK10
   refine wp_ret ?_
   replace hS := hS.perm (.cons _ (.cons _ (.swap _ _ _)))
   replace hS := hS.perm (.cons _ (.swap _ _ _))
   replace hS := hS.perm (.swap _ _ _)
   exact fn_retG [] hI hD (by simp) (by simp) (by simp) (rs := [.tmp 4, .tmp 5]) rfl hF hS (vs := [_, _]) ⟨rfl, rfl, trivial⟩ (fun W hS => ⟨[], _, hS.keep zQ ((zQ.k)), Jn.pk_of (q := Jn.secN (n0 : Int) t (Jn.cnt t.length).toNat) ⟨u, rfl, rfl, by rw [Jn.secN_len]⟩ (by rw [Jn.pack_3 (by omega) (by omega), Jn.secN_end])⟩)
end Go.Proofs.YtibbhobfdbfkkaaGreatDoor
end

section
namespace Go.Proofs.YtibbhobfdbfkkaaGreatDoor
open Go.Fw
theorem fn56 : FnOk Tryz.prog 56 := ⟨_, Tryz.func56, rfl, by kernel_rfl⟩
theorem fn81 : FnOk Tryz.prog 81 := ⟨_, Tryz.func81, rfl, by kernel_rfl⟩

attribute [local irreducible] Sha.sum Jn.good Jn.hd Jn.lb

set_option maxRecDepth 4000 in
set_option maxHeartbeats 2000000 in
theorem rpack_ct (n : Int) (t : List UInt8) (hn : -9223372036854775808 ≤ n ∧ n ≤ 9223372036854775807) (w : World) {fz0 : Nat × Nat} {bt0 : TypeId} (hg0 : w.heap[0]? = some (.cells (Sha.kc.map vw).toArray bt0 fz0)) : Ct Tryz.prog 60 [vi n, vs t] w (Jn.PkR 9 (Jn.pack n t)) := by
 refine fn_enter Tryz.func60 rfl Tryz.ntmps60 (Nat.le_of_ble_eq_true rfl) fun a hF hS => ?_
 have hcr := Jn.cnt_rng t.length
 refine wp_seq_k ?_; intro K1 hK1
 refine reg hF hS (sq rfl (q_assign rfl) <|
   sq rfl (q_assign rfl) <|
   sq_end) ?_
 clear hF hS; intro a w hF hS
 refine hK1 _ _ ?_
 clear hK1
 refine wp_seq_k ?_; intro K2 hK2
 refine wp_seq_k ?_; intro K3 hK3
 refine regl ?_
 refine wpl_sq hF hS (sq rfl (q_move rfl) <|
   sq rfl (q_lti rfl rfl) <|
   sq rfl (q_move rfl) <|
   sq_end) ?_
 clear hF hS; intro a w hF hS
 refine wpl_or 2 14 2 hF hS rfl rfl rfl rfl rfl (fun hg => have hg := (by first | exact of_decide_eq_false hg | exact hg); sq_go 14 rfl rfl rfl (q_move rfl) <|
   sq_go 14 rfl rfl rfl (q_gti rfl rfl) <|
   sq_end) rfl rfl ?_
 clear hF hS; intro a w hF hS
 refine wpList_nil ?_
 refine hK3 _ _ ?_
 clear hK3
 refine wp_if hF rfl (fun hc1 => ?_) (fun hc1 => ?_)
 ·(try simp only [Bool.or_eq_true, Bool.and_eq_true, Bool.or_eq_false_iff, Bool.and_eq_false_iff, decide_eq_true_eq, decide_eq_false_iff_not, Bool.not_eq_true', Bool.not_eq_false'] at hc1)
  refine wp_seq_k ?_; intro K4 hK4
  refine reg hF hS (sq rfl (q_assign rfl) <|
    sq rfl (q_assign rfl) <|
    sq_end) ?_
  clear hF hS; intro a w hF hS
  refine hK4 _ _ ?_
  clear hK4
  refine wp_ret ?_
  replace hS := hS.nilRow 9 1
  exact fn_ret (rs := [.tmp 4, .tmp 5]) rfl hF hS (vs := [_, _]) ⟨rfl, rfl, trivial⟩ zQ ((zQ.k)) (Jn.pk_of ⟨_, rfl, rfl, rfl⟩ (by rw [Jn.pack_1 (by omega)]))
 ·(try simp only [Bool.or_eq_true, Bool.and_eq_true, Bool.or_eq_false_iff, Bool.and_eq_false_iff, decide_eq_true_eq, decide_eq_false_iff_not, Bool.not_eq_true', Bool.not_eq_false'] at hc1)
  refine wp_skip ?_
  refine hK2 _ _ ?_
  clear hK2
  refine wp_seq_k ?_; intro K5 hK5
  refine wp_seq_k ?_; intro K6 hK6
  refine reg hF hS (sq rfl (q_move rfl) <|
    sq rfl (q_len_s ty9 rfl) <|
    sq rfl (q_gti rfl rfl) <|
    sq_end) ?_
  clear hF hS; intro a w hF hS
  refine hK6 _ _ ?_
  clear hK6
  refine wp_ifd hF rfl (fun hc2 => ?_) (fun hc2 => ?_)
  ·refine wp_seq_k ?_; intro K7 hK7
   refine reg hF hS (sq rfl (q_assign rfl) <|
     sq rfl (q_assign rfl) <|
     sq_end) ?_
   clear hF hS; intro a w hF hS
   refine hK7 _ _ ?_
   clear hK7
   refine wp_ret ?_
   replace hS := hS.nilRow 9 1
   exact fn_ret (rs := [.tmp 4, .tmp 5]) rfl hF hS (vs := [_, _]) ⟨rfl, rfl, trivial⟩ zQ ((zQ.k)) (Jn.pk_of ⟨_, rfl, rfl, rfl⟩ (by rw [Jn.pack_2 (by omega) (by omega)]))
  ·obtain ⟨n0, rfl⟩ : ∃ m : Nat, n = (m : Int) := ⟨n.toNat, by omega⟩
   refine wp_skip ?_
   refine hK5 _ _ ?_
   clear hK5
   refine wp_seq_k ?_; intro K8 hK8
   refine reg hF hS (sq rfl (q_assign rfl) <|
     sq_end) ?_
   clear hF hS; intro a w hF hS
   replace hS := hS.nilRow 9 1
   refine hK8 _ _ ?_
   clear hK8
   refine wp_seq_k ?_; intro K9 hK9
   refine wp_seq_k ?_; intro K10 hK10
   refine reg hF hS (sq rfl (q_assign rfl) <|
     sq_end) ?_
   clear hF hS; intro a w hF hS
   refine hK10 _ _ ?_
   clear hK10
   refine wp_block ?_
   obtain ⟨hs0, hhs0, hS⟩ : ∃ h, h = _ ∧ St _ _ h _ := ⟨_, rfl, hS⟩
   refine wp_loopx (γ := Value × Nat) ((Value.slice none 0 0), 0) (fun (gg : Value × Nat) => match gg with | (u, k) => [(6, u), (7, vi (k : Int))]) [(0, _), (1, _)] (fun (gg : Value × Nat) => match gg with | (u, k) => (hs0.set 0 (.row u 9 1 k ((Jn.secN (n0 : Int) t k).map vs)))) (fun (gg : Value × Nat) => match gg with | (u, k) => k ≤ (Jn.cnt t.length).toNat) (fun (gg : Value × Nat) => match gg with | (u, k) => (Jn.cnt t.length).toNat - k) (hF.sub ⟨rfl, rfl, rfl, rfl, trivial⟩) (by subst hhs0; exact hS) (by exact Nat.zero_le _) ?_
   clear hF hS; rintro ⟨u, k⟩ a w hfact hF hS
   subst hhs0; (try dsimp only at hfact); (try dsimp only at hF); (try dsimp only at hS)
   have hk0 := hfact
   replace hS : St _ [] [_] _ := hS
   have hch := Jn.cnt_hi (n := t.length) (by omega)
   refine wp_seq_k ?_; intro K11 hK11
   refine wp_seq_k ?_; intro K12 hK12
   refine reg hF hS (sq rfl (q_move rfl) <|
     sq rfl (q_move rfl) <|
     sq rfl (q_len_s ty9 rfl) <|
     sq rfl (q_call fn56 rfl (fun w hS => jrcount_ct _ (by first | assumption | omega) w ) (fun _ _ _ h => h)) <|
     sq rfl (q_lti rfl rfl) <|
     sq_end) ?_
   clear hF hS; intro a w hF hS
   refine hK12 _ _ ?_
   clear hK12
   refine wp_ifd hF rfl (fun hc3 => ?_) (fun hc3 => ?_)
   ·refine wp_skip ?_
    refine hK11 _ _ ?_
    clear hK11
    refine wp_seq_k ?_; intro K13 hK13
    refine wp_block ?_
    refine wp_seq_k ?_; intro K14 hK14
    refine reg hF hS (sq rfl (q_move rfl) <|
      sq rfl (q_move rfl) <|
      sq rfl (q_muli rfl rfl (by omega)) <|
      sq rfl (q_sl_s_lo ty9 rfl rfl (by omega)) <|
      sq rfl (q_assign rfl) <|
      sq_end) ?_
    clear hF hS; intro a w hF hS
    rw [show (48 * (k : Int)).toNat = 48 * k by omega] at hF
    obtain ⟨rest, hrest⟩ : ∃ r, r = List.drop (48 * k) t := ⟨_, rfl⟩
    rw [← hrest] at hF
    have hrl : rest.length ≤ 8000 := by rw [hrest, List.length_drop]; omega
    refine hK14 _ _ ?_
    clear hK14
    refine wp_seq_k ?_; intro K15 hK15
    refine regl ?_
    refine wpl_sq hF hS (sq rfl (q_move rfl) <|
      sq_end) ?_
    clear hF hS; intro a w hF hS
    refine wpl_ef hF hS rfl (ef_call fn81 rfl (fun w hS => small_ct n0 4 (by omega) (by omega) w )) ?_
    clear hF hS; rintro v2 _ _ a w ⟨_, _, rfl, rfl, rfl, rfl⟩ hF hS
    replace hS : St _ [] [_, _] _ := hS
    refine wpl_sq hF hS (sq rfl (q_assign rfl) <|
      sq_end) ?_
    clear hF hS; intro a w hF hS
    refine wpList_nil ?_
    refine hK15 _ _ ?_
    clear hK15
    refine wp_seq_k ?_; intro K16 hK16
    refine regl ?_
    refine wpl_sq hF hS (sq rfl (q_move rfl) <|
      sq rfl (q_move rfl) <|
      sq_end) ?_
    clear hF hS; intro a w hF hS
    refine wpl_ef hF hS rfl (ef_call fn81 rfl (fun w hS => small_ct k 2 (by omega) (by omega) w )) ?_
    clear hF hS; rintro v4 _ _ a w ⟨_, _, rfl, rfl, rfl, rfl⟩ hF hS
    replace hS : St _ [] [_, _, _] _ := hS
    refine wpl_ef hF hS rfl (ef_append ty81 ty5 1 rfl rfl rfl (src_row ty81 (k := 0) rfl oQ) bQ rfl (by decide)) ?_
    clear hF hS; rintro v6 _ _ a w ⟨rfl, rfl⟩ hF hS
    replace hS : St _ [] [_, _, _] _ := hS
    refine wpl_sq hF hS (sq rfl (q_assign rfl) <|
      sq_end) ?_
    clear hF hS; intro a w hF hS
    refine wpList_nil ?_
    refine hK16 _ _ ?_
    clear hK16
    refine wp_seq_k ?_; intro K17 hK17
    refine regl ?_
    refine wpl_sq hF hS (sq rfl (q_move rfl) <|
      sq rfl (q_move rfl) <|
      sq rfl (q_len_s ty9 rfl) <|
      sq_end) ?_
    clear hF hS; intro a w hF hS
    refine wpl_ef hF hS rfl (ef_call fn81 rfl (fun w hS => small_ct rest.length 2 (by omega) (by omega) w )) ?_
    clear hF hS; rintro v7 _ _ a w ⟨_, _, rfl, rfl, rfl, rfl⟩ hF hS
    replace hS : St _ [] [_, _, _, _] _ := hS
    refine wpl_ef hF hS rfl (ef_append ty81 ty5 2 rfl rfl rfl (src_row ty81 (k := 0) rfl oQ) bQ rfl (by decide)) ?_
    clear hF hS; rintro v9 _ _ a w ⟨rfl, rfl⟩ hF hS
    replace hS : St _ [] [_, _, _, _] _ := hS
    refine wpl_sq hF hS (sq rfl (q_assign rfl) <|
      sq_end) ?_
    clear hF hS; intro a w hF hS
    refine wpList_nil ?_
    refine hK17 _ _ ?_
    clear hK17
    refine wp_seq_k ?_; intro K18 hK18
    refine wp_seq_k ?_; intro K19 hK19
    refine reg hF hS (sq rfl (q_assign rfl) <|
      sq_end) ?_
    clear hF hS; intro a w hF hS
    refine hK19 _ _ ?_
    clear hK19
    refine wp_block ?_
    obtain ⟨hs0, hhs0, hS⟩ : ∃ h, h = _ ∧ St _ _ h _ := ⟨_, rfl, hS⟩
    refine wp_loopx (γ := Value × Nat) (v9, 0) (fun (gg : Value × Nat) => match gg with | (u2, i) => [(9, u2), (10, vi (i : Int))]) [(0, _), (1, _), (6, _), (7, _), (8, _)] (fun (gg : Value × Nat) => match gg with | (u2, i) => (hs0.set 2 (.row u2 5 1 (8 + i) ((Jn.hdN n0 k rest i).map vb)))) (fun (gg : Value × Nat) => match gg with | (u2, i) => i ≤ 48) (fun (gg : Value × Nat) => match gg with | (u2, i) => 48 - i) (hF.sub ⟨rfl, rfl, rfl, rfl, rfl, rfl, rfl, trivial⟩) (by subst hhs0; rw [Jn.hdN_0] at hS; exact hS) (by exact Nat.zero_le _) ?_
    clear hF hS; rintro ⟨u2, i⟩ a w hfact hF hS
    subst hhs0; (try dsimp only at hfact); (try dsimp only at hF); (try dsimp only at hS)
    have hi0 := hfact
    replace hS : St _ [] [_, _, _, _] _ := hS
    refine wp_seq_k ?_; intro K20 hK20
    refine wp_seq_k ?_; intro K21 hK21
    refine reg hF hS (sq rfl (q_move rfl) <|
      sq rfl (q_lti rfl rfl) <|
      sq_end) ?_
    clear hF hS; intro a w hF hS
    refine hK21 _ _ ?_
    clear hK21
    refine wp_ifd hF rfl (fun hc4 => ?_) (fun hc4 => ?_)
    ·refine wp_skip ?_
     refine hK20 _ _ ?_
     clear hK20
     refine wp_seq_k ?_; intro K22 hK22
     refine wp_block ?_
     refine wp_seq_k ?_; intro K23 hK23
     refine reg hF hS (sq rfl (q_assign rfl) <|
       sq_end) ?_
     clear hF hS; intro a w hF hS
     refine hK23 _ _ ?_
     clear hK23
     obtain ⟨hs0, hhs0, hS⟩ : ∃ h, h = _ ∧ St _ _ h _ := ⟨_, rfl, hS⟩
     refine wp_cutx (γ := UInt8) (fun (c : UInt8) => [(11, vb c)]) [(0, _), (1, _), (6, _), (7, _), (8, _), (9, _), (10, _)] (fun (c : UInt8) => hs0) (fun (c : UInt8) => c = rest.getD i 0) (hF.sub ⟨rfl, rfl, rfl, rfl, rfl, rfl, rfl, trivial⟩) hS ?_ ?_
     ·subst hhs0
      refine wp_seq_k ?_; intro K24 hK24
      refine reg hF hS (sq rfl (q_move rfl) <|
        sq rfl (q_move rfl) <|
        sq rfl (q_len_s ty9 rfl) <|
        sq rfl (q_lti rfl rfl) <|
        sq_end) ?_
      clear hF hS; intro a w hF hS
      refine hK24 _ _ ?_
      clear hK24
      refine wp_ifd hF rfl (fun hc5 => ?_) (fun hc5 => ?_)
      ·refine reg hF hS (sq rfl (q_move rfl) <|
         sq rfl (q_move rfl) <|
         sq rfl (q_idx_s ty9 rfl rfl (by omega)) <|
         sq rfl (q_assign rfl) <|
         sq_end) ?_
       clear hF hS; intro a w hF hS
       refine ⟨(rest.getD (i : Int).toNat 0), ?_, hF.sub ⟨rfl, rfl, rfl, rfl, rfl, rfl, rfl, rfl, trivial⟩, ?_⟩
       ·rw [Int.toNat_natCast]
       ·exact hS
      ·refine wp_skip ?_
       refine ⟨(0), ?_, hF.sub ⟨rfl, rfl, rfl, rfl, rfl, rfl, rfl, rfl, trivial⟩, ?_⟩
       ·rw [List.getD_eq_getElem?_getD, List.getElem?_eq_none (by omega)]; rfl
       ·exact hS
     clear hF hS; rintro c a w hfact hF hS
     subst hhs0; (try dsimp only at hfact); (try dsimp only at hF); (try dsimp only at hS)
     have hcc := hfact
     replace hS : St _ [] [_, _, _, _] _ := hS
     refine regl ?_
     refine wpl_sq hF hS (sq rfl (q_move rfl) <|
       sq rfl (q_move rfl) <|
       sq_end) ?_
     clear hF hS; intro a w hF hS
     refine wpl_ef hF hS rfl (ef_bsliceA ty81 ty5 rfl rfl oQ (by decide) rfl rfl) ?_
     clear hF hS; rintro v10 _ _ a w ⟨rfl, rfl⟩ hF hS
     replace hS : St _ [] [_, _, _, _, _] _ := hS
     refine wpl_ef hF hS rfl (ef_append ty81 ty5 3 rfl rfl rfl (src_row ty81 (k := 0) rfl oQ) bQ rfl (by decide)) ?_
     clear hF hS; rintro v12 _ _ a w ⟨rfl, rfl⟩ hF hS
     replace hS : St _ [] [_, _, _, _, _] _ := hS
     refine wpl_sq hF hS (sq rfl (q_assign rfl) <|
       sq_end) ?_
     clear hF hS; intro a w hF hS
     refine wpList_nil ?_
     refine hK22 _ _ ?_
     clear hK22
     refine reg hF hS (sq rfl (q_move rfl) <|
       sq rfl (q_addi rfl rfl (by omega)) <|
       sq rfl (q_assign rfl) <|
       sq_end) ?_
     clear hF hS; intro a w hF hS
     replace hS := hS.keep zQ (sQ.n)
     refine ⟨(v12, i + 1), ?_, ?_, hF.sub ⟨rfl, rfl, rfl, rfl, rfl, rfl, rfl, trivial⟩, ?_⟩
     ·(try dsimp only); omega
     ·omega
     ·subst hcc
      rw [Jn.hdN_step] at hS
      exact hS
    ·obtain rfl : i = 48 := by omega
     rw [Jn.hdN_end] at hS
     have hhl := Jn.hd_len n0 k rest
     refine wp_exit ?_
     refine hK18 _ _ ?_
     clear hK18
     refine regl ?_
     refine wpl_sq hF hS (sq rfl (q_move rfl) <|
       sq rfl (q_move rfl) <|
       sq rfl (q_call fn80 rfl (fun w hS => checked_ct _ _ (by first | assumption | omega) w (own_slV (hS.own _ (List.mem_of_getElem? (i := 2) rfl)).1 (by first | assumption | (simp; done)) (by first | rfl | (simp; done) | (simp; omega) | omega) (by first | omega | (simp; omega))) (hS.ext _ _ hg0)) (fun _ _ _ h => h)) <|
       sq_end) ?_
     clear hF hS; intro a w hF hS
     refine wpl_ef hF hS rfl (ef_bsliceA ty22 ty9 rfl rfl oQ (by decide) rfl rfl) ?_
     clear hF hS; rintro v13 _ _ a w ⟨rfl, rfl⟩ hF hS
     replace hS : St _ [] [_, _, _, _, _] _ := hS
     refine wpl_ef hF hS rfl (ef_append ty22 ty9 4 rfl rfl rfl (src_row ty22 (k := 0) rfl oQ) bQ rfl (by decide)) ?_
     clear hF hS; rintro v15 _ _ a w ⟨rfl, rfl⟩ hF hS
     replace hS : St _ [] [_, _, _, _, _] _ := hS
     refine wpl_sq hF hS (sq rfl (q_assign rfl) <|
       sq_end) ?_
     clear hF hS; intro a w hF hS
     refine wpList_nil ?_
     refine hK13 _ _ ?_
     clear hK13
     refine reg hF hS (sq rfl (q_move rfl) <|
       sq rfl (q_addi rfl rfl (by omega)) <|
       sq rfl (q_assign rfl) <|
       sq_end) ?_
     clear hF hS; intro a w hF hS
     replace hS := hS.keep zQ (sQ.n.n.n.n)
     refine ⟨(v15, k + 1), ?_, ?_, hF.sub ⟨rfl, rfl, rfl, rfl, trivial⟩, ?_⟩
     ·(try dsimp only); omega
     ·omega
     ·rw [hrest, Jn.sec_eq, Jn.secN_step] at hS
      exact hS
   ·obtain rfl : k = (Jn.cnt t.length).toNat := by omega
    refine wp_exit ?_
    refine hK9 _ _ ?_
    clear hK9
    refine wp_seq_k ?_; intro K25 hK25
    refine reg hF hS (sq rfl (q_move rfl) <|
      sq rfl (q_assign rfl) <|
      sq rfl (q_assign rfl) <|
      sq_end) ?_
    clear hF hS; intro a w hF hS
    refine hK25 _ _ ?_
    clear hK25
    refine wp_ret ?_
    exact fn_ret (rs := [.tmp 4, .tmp 5]) rfl hF hS (vs := [_, _]) ⟨rfl, rfl, trivial⟩ zQ ((zQ.k)) (Jn.pk_of (q := Jn.secN (n0 : Int) t (Jn.cnt t.length).toNat) ⟨u, rfl, rfl, by rw [Jn.secN_len]⟩ (by rw [Jn.pack_3 (by omega) (by omega), Jn.secN_end]))
end Go.Proofs.YtibbhobfdbfkkaaGreatDoor
end

section
namespace Go.Proofs.YtibbhobfdbfkkaaGreatDoor
open Go.Fw
theorem ty90 : Tf Tryz.prog 90 (.slice 94) 1 24 (Value.slice none 0 0) := ⟨Tryz.underlying90, by kernel_rfl⟩

attribute [local irreducible] Sha.sum Jn.good Jn.hd Jn.lb Jn.cnt

set_option maxRecDepth 4000 in
set_option maxHeartbeats 2000000 in
theorem record_ct (v : Value) (xs : List Jn.Part) (h0 : xs ≠ []) (w : World) (hb : Sl Jn.encPt (ph w) v xs) : Ct Tryz.prog 50 [v] w (fun r _ _ => r = .tuple [vs (Jn.recT xs).1, vi (Jn.recT xs).2.1, .bool (Jn.recT xs).2.2].toArray) := by
 refine fn_enter Tryz.func50 rfl Tryz.ntmps50 (Nat.le_of_ble_eq_true rfl) fun a hF hS => ?_
 have hbl := hb.1
 have hps := K_all hb
 have hx0 : 0 < xs.length := List.length_pos_iff.2 h0
 have hf : Jn.PtOk (Jn.f0 xs) := (K_at Jn.p0 hb hx0).2
 obtain ⟨⟨hf1, hf2⟩, ⟨hf3, hf4⟩, ⟨hf5, hf6⟩, hf7⟩ := hf
 refine wp_seq_k ?_; intro K1 hK1
 refine reg hF hS (sq rfl (q_assign rfl) <|
   sq rfl (q_assign rfl) <|
   sq rfl (q_assign rfl) <|
   sq_end) ?_
 clear hF hS; intro a w hF hS
 refine hK1 _ _ ?_
 clear hK1
 refine wp_seq_k ?_; intro K2 hK2
 refine regl ?_
 refine wpl_sq hF hS (sq rfl (q_move rfl) <|
   sq rfl (q_idx_sl ty90 ty94 hb rfl rfl (by omega)) <|
   sq rfl (q_ld_Pt ty94 hb zin0 rfl rfl (by first | omega | (simp; omega))) <|
   sq_end) ?_
 clear hF hS; intro a w hF hS
 refine wpl_ef hF hS rfl (ef_allocA ty94) ?_
 clear hF hS; rintro _ _ _ a w ⟨b1, rfl, rfl, rfl⟩ hF hS
 refine wpl_ef hF hS rfl (ef_storeW ty94 0 rfl rfl rfl rfl bQ (oc_cons rfl (oc_cons rfl (oc_cons rfl (oc_cons rfl (oc_cons rfl oc_nil))))) bQ) ?_
 clear hF hS; rintro _ _ _ a w ⟨rfl, rfl, rfl⟩ hF hS
 replace hS : St _ [] [_] _ := hS
 refine wpList_nil ?_
 replace hS : St _ [] [.blk b1 94 [vi (Jn.f0 xs).n, vi (Jn.f0 xs).p, vi (Jn.f0 xs).l, vs (Jn.f0 xs).t, .bool (Jn.f0 xs).ok]] _ := hS
 refine hK2 _ _ ?_
 clear hK2
 refine wp_seq_k ?_; intro K3 hK3
 refine reg hF hS (sq rfl (q_fieldAddr ty94 rfl rfl (s' := 0) kQ) <|
   sq rfl (q_ld_blk1 ty3 0 rfl rfl rfl rfl) <|
   sq rfl (q_call fn16 rfl (fun w hS => count_ct _ (by first | assumption | omega) w ) (fun _ _ _ h => h)) <|
   sq rfl (q_assign rfl) <|
   sq_end) ?_
 clear hF hS; intro a w hF hS
 have hcp := Jn.cnt_pos ⟨hf5, hf6⟩
 have hcr := Jn.cnt_rng (Jn.f0 xs).l
 refine hK3 _ _ ?_
 clear hK3
 refine wp_seq_k ?_; intro K4 hK4
 refine wp_seq_k ?_; intro K5 hK5
 refine regl ?_
 refine wpl_sq hF hS (sq rfl (q_fieldAddr ty94 rfl rfl (s' := 0) kQ) <|
   sq rfl (q_ld_blk1 ty4 0 rfl rfl rfl rfl) <|
   sq rfl (q_not rfl) <|
   sq rfl (q_move rfl) <|
   sq_end) ?_
 clear hF hS; intro a w hF hS
 refine wpl_or 3 19 3 hF hS rfl rfl rfl rfl rfl (fun hg => have hg := hg; sq_go 19 rfl rfl rfl (q_fieldAddr ty94 rfl rfl (s' := 0) kQ) <|
   sq_go 19 rfl rfl rfl (q_ld_blk1 ty3 0 rfl rfl rfl rfl) <|
   sq_go 19 rfl rfl rfl (q_nei rfl rfl) <|
   sq_end) rfl rfl ?_
 clear hF hS; intro a w hF hS
 refine wpl_sq hF hS (sq rfl (q_move rfl) <|
   sq_end) ?_
 clear hF hS; intro a w hF hS
 refine wpl_or 8 24 4 hF hS rfl rfl rfl rfl rfl (fun hg => have hg := hg; sq_go 24 rfl rfl rfl (q_move rfl) <|
   sq_go 24 rfl rfl rfl (q_move rfl) <|
   sq_go 24 rfl rfl rfl (q_len_sl ty90 hb rfl) <|
   sq_go 24 rfl rfl rfl (q_gti rfl rfl) <|
   sq_end) rfl rfl ?_
 clear hF hS; intro a w hF hS
 refine wpList_nil ?_
 refine hK5 _ _ ?_
 clear hK5
 refine wp_if hF rfl (fun hc1 => ?_) (fun hc1 => ?_)
 ·(try simp only [Bool.or_eq_true, Bool.and_eq_true, Bool.or_eq_false_iff, Bool.and_eq_false_iff, decide_eq_true_eq, decide_eq_false_iff_not, Bool.not_eq_true', Bool.not_eq_false'] at hc1)
  refine wp_seq_k ?_; intro K6 hK6
  refine reg hF hS (sq rfl (q_assign rfl) <|
    sq rfl (q_assign rfl) <|
    sq rfl (q_assign rfl) <|
    sq_end) ?_
  clear hF hS; intro a w hF hS
  refine hK6 _ _ ?_
  clear hK6
  refine wp_ret ?_
  exact fn_ret (rs := [.tmp 2, .tmp 3, .tmp 4]) rfl hF hS (vs := [_, _, _]) ⟨rfl, rfl, rfl, trivial⟩ zQ zQ (by rw [Jn.rec_1 h0 hc1])
 ·(try simp only [Bool.or_eq_true, Bool.and_eq_true, Bool.or_eq_false_iff, Bool.and_eq_false_iff, decide_eq_true_eq, decide_eq_false_iff_not, Bool.not_eq_true', Bool.not_eq_false'] at hc1)
  refine wp_skip ?_
  refine hK4 _ _ ?_
  clear hK4
  refine wp_seq_k ?_; intro K7 hK7
  refine reg hF hS (sq rfl (q_assign rfl) <|
    sq_end) ?_
  clear hF hS; intro a w hF hS
  refine hK7 _ _ ?_
  clear hK7
  refine wp_seq_k ?_; intro K8 hK8
  refine wp_seq_k ?_; intro K9 hK9
  refine reg hF hS (sq rfl (q_move rfl) <|
    sq rfl (q_move rfl) <|
    sq rfl (q_slsl_hi ty90 ty94 hb rfl rfl (by omega)) <|
    sq rfl (q_len_sl ty90 (Sl.cut hb (by omega)) rfl) <|
    sq rfl (q_move rfl) <|
    sq_end) ?_
  clear hF hS; intro a w hF hS
  have hml : (List.drop 0 (List.take (Jn.cnt (Jn.f0 xs).l).toNat xs)).length = (Jn.cnt (Jn.f0 xs).l).toNat := by rw [List.length_drop, List.length_take]; omega
  refine hK9 _ _ ?_
  clear hK9
  refine wp_block ?_
  obtain ⟨hs0, hhs0, hS⟩ : ∃ h, h = _ ∧ St _ _ h _ := ⟨_, rfl, hS⟩
  refine wp_loopx (γ := Nat) (0) (fun (k : Nat) => [(7, vs (Jn.txs ((List.drop 0 (List.take (Jn.cnt (Jn.f0 xs).l).toNat xs)).take k))), (34, vi (k : Int))]) [(5, _), (6, _), (32, _), (33, _)] (fun (k : Nat) => hs0) (fun (k : Nat) => k ≤ (Jn.cnt (Jn.f0 xs).l).toNat ∧ Jn.mts (Jn.f0 xs) 0 ((List.drop 0 (List.take (Jn.cnt (Jn.f0 xs).l).toNat xs)).take k) = true) (fun (k : Nat) => (Jn.cnt (Jn.f0 xs).l).toNat - k) (hF.sub ⟨rfl, rfl, rfl, rfl, rfl, rfl, trivial⟩) (by subst hhs0; exact hS) (by exact ⟨Nat.zero_le _, rfl⟩) ?_
  clear hF hS; rintro k a w hfact hF hS
  subst hhs0; (try dsimp only at hfact); (try dsimp only at hF); (try dsimp only at hS)
  obtain ⟨hk0, hmt⟩ := hfact
  replace hS : St _ [] [_] _ := hS
  have htl := Jn.txs_len (l := (List.drop 0 (List.take (Jn.cnt (Jn.f0 xs).l).toNat xs)).take k) (fun x hx => hps x (Jn.mem_cut2 x hx))
  rw [List.length_take] at htl
  refine wp_seq_k ?_; intro K10 hK10
  refine reg hF hS (sq rfl (q_lti rfl rfl) <|
    sq_end) ?_
  clear hF hS; intro a w hF hS
  refine hK10 _ _ ?_
  clear hK10
  refine wp_seq_k ?_; intro K11 hK11
  refine wp_ifd hF rfl (fun hc2 => ?_) (fun hc2 => ?_)
  ·have hX := hps _ (Jn.mem_cut (xs := xs) (m := (Jn.cnt (Jn.f0 xs).l).toNat) (k := k) (by omega))
   obtain ⟨⟨hx1, hx2⟩, ⟨hx3, hx4⟩, ⟨hx5, hx6⟩, hx7⟩ := hX
   refine wp_skip ?_
   refine hK11 _ _ ?_
   clear hK11
   refine wp_seq_k ?_; intro K12 hK12
   refine wp_block ?_
   refine wp_seq_k ?_; intro K13 hK13
   refine regl ?_
   refine wpl_sq hF hS (sq rfl (q_move rfl) <|
     sq rfl (q_idx_sl ty90 ty94 (Sl.cut hb (by omega)) rfl rfl (by omega)) <|
     sq rfl (q_ld_Pt ty94 (Sl.cut hb (by omega)) zin0 rfl rfl (by first | omega | (simp; omega))) <|
     sq_end) ?_
   clear hF hS; intro a w hF hS
   refine wpl_ef hF hS rfl (ef_allocA ty94) ?_
   clear hF hS; rintro _ _ _ a w ⟨b2, rfl, rfl, rfl⟩ hF hS
   refine wpl_sq hF hS (sq rfl (q_assign rfl) <|
     sq_end) ?_
   clear hF hS; intro a w hF hS
   refine wpl_ef hF hS rfl (ef_storeW ty94 0 rfl rfl rfl rfl bQ (oc_cons rfl (oc_cons rfl (oc_cons rfl (oc_cons rfl (oc_cons rfl oc_nil))))) bQ) ?_
   clear hF hS; rintro _ _ _ a w ⟨rfl, rfl, rfl⟩ hF hS
   replace hS : St _ [] [_, _] _ := hS
   refine wpList_nil ?_
   rw [show ((k : Int)).toNat = k from Int.toNat_natCast k] at hS
   replace hS : St _ [] [.blk b2 94 [vi ((List.drop 0 (List.take (Jn.cnt (Jn.f0 xs).l).toNat xs)).getD k Jn.p0).n, vi ((List.drop 0 (List.take (Jn.cnt (Jn.f0 xs).l).toNat xs)).getD k Jn.p0).p, vi ((List.drop 0 (List.take (Jn.cnt (Jn.f0 xs).l).toNat xs)).getD k Jn.p0).l, vs ((List.drop 0 (List.take (Jn.cnt (Jn.f0 xs).l).toNat xs)).getD k Jn.p0).t, .bool ((List.drop 0 (List.take (Jn.cnt (Jn.f0 xs).l).toNat xs)).getD k Jn.p0).ok], _] _ := hS
   refine hK13 _ _ ?_
   clear hK13
   refine wp_seq_k ?_; intro K14 hK14
   refine wp_seq_k ?_; intro K15 hK15
   refine regl ?_
   refine wpl_sq hF hS (sq rfl (q_fieldAddr ty94 rfl rfl (s' := 0) kQ) <|
     sq rfl (q_ld_blk1 ty4 0 rfl rfl rfl rfl) <|
     sq rfl (q_not rfl) <|
     sq rfl (q_move rfl) <|
     sq_end) ?_
   clear hF hS; intro a w hF hS
   refine wpl_or 3 42 5 hF hS rfl rfl rfl rfl rfl (fun hg => have hg := hg; sq_go 42 rfl rfl rfl (q_fieldAddr ty94 rfl rfl (s' := 0) kQ) <|
     sq_go 42 rfl rfl rfl (q_ld_blk1 ty3 0 rfl rfl rfl rfl) <|
     sq_go 42 rfl rfl rfl (q_fieldAddr ty94 rfl rfl (s' := 0) kQ) <|
     sq_go 42 rfl rfl rfl (q_ld_blk1 ty3 1 rfl rfl rfl rfl) <|
     sq_go 42 rfl rfl rfl (q_nei rfl rfl) <|
     sq_end) rfl rfl ?_
   clear hF hS; intro a w hF hS
   refine wpl_sq hF hS (sq rfl (q_move rfl) <|
     sq_end) ?_
   clear hF hS; intro a w hF hS
   refine wpl_or 10 49 4 hF hS rfl rfl rfl rfl rfl (fun hg => have hg := hg; sq_go 49 rfl rfl rfl (q_fieldAddr ty94 rfl rfl (s' := 0) kQ) <|
     sq_go 49 rfl rfl rfl (q_ld_blk1 ty3 0 rfl rfl rfl rfl) <|
     sq_go 49 rfl rfl rfl (q_move rfl) <|
     sq_go 49 rfl rfl rfl (q_nei rfl rfl) <|
     sq_end) rfl rfl ?_
   clear hF hS; intro a w hF hS
   refine wpl_sq hF hS (sq rfl (q_move rfl) <|
     sq_end) ?_
   clear hF hS; intro a w hF hS
   refine wpl_or 16 55 8 hF hS rfl rfl rfl rfl rfl (fun hg => have hg := hg; sq_go 55 rfl rfl rfl (q_fieldAddr ty94 rfl rfl (s' := 0) kQ) <|
     sq_go 55 rfl rfl rfl (q_ld_blk1 ty3 0 rfl rfl rfl rfl) <|
     sq_go 55 rfl rfl rfl (q_fieldAddr ty94 rfl rfl (s' := 0) kQ) <|
     sq_go 55 rfl rfl rfl (q_ld_blk1 ty3 1 rfl rfl rfl rfl) <|
     sq_go 55 rfl rfl rfl (q_move rfl) <|
     sq_go 55 rfl rfl rfl (q_muli rfl rfl (by omega)) <|
     sq_go 55 rfl rfl rfl (q_subi rfl rfl (by omega)) <|
     sq_go 55 rfl rfl rfl (q_nei rfl rfl) <|
     sq_end) rfl rfl ?_
   clear hF hS; intro a w hF hS
   refine wpList_nil ?_
   refine hK15 _ _ ?_
   clear hK15
   refine wp_if hF rfl (fun hc3 => ?_) (fun hc3 => ?_)
   ·(try simp only [Bool.or_eq_true, Bool.and_eq_true, Bool.or_eq_false_iff, Bool.and_eq_false_iff, decide_eq_true_eq, decide_eq_false_iff_not, Bool.not_eq_true', Bool.not_eq_false'] at hc3)
    refine wp_seq_k ?_; intro K16 hK16
    refine reg hF hS (sq rfl (q_assign rfl) <|
      sq rfl (q_assign rfl) <|
      sq rfl (q_assign rfl) <|
      sq_end) ?_
    clear hF hS; intro a w hF hS
    refine hK16 _ _ ?_
    clear hK16
    refine wp_ret ?_
    exact fn_ret (rs := [.tmp 2, .tmp 3, .tmp 4]) rfl hF hS (vs := [_, _, _]) ⟨rfl, rfl, rfl, trivial⟩ zQ zQ (by rw [Jn.rec_2 h0 (Jn.mts_stop (l := (List.drop 0 (List.take (Jn.cnt (Jn.f0 xs).l).toNat xs))) (k := k) (by omega) hc3)])
   ·(try simp only [Bool.or_eq_true, Bool.and_eq_true, Bool.or_eq_false_iff, Bool.and_eq_false_iff, decide_eq_true_eq, decide_eq_false_iff_not, Bool.not_eq_true', Bool.not_eq_false'] at hc3)
    refine wp_skip ?_
    refine hK14 _ _ ?_
    clear hK14
    refine reg hF hS (sq rfl (q_move rfl) <|
      sq rfl (q_fieldAddr ty94 rfl rfl (s' := 0) kQ) <|
      sq rfl (q_ld_blk1 ty9 0 rfl rfl rfl rfl) <|
      sq rfl (q_adds rfl rfl bQ) <|
      sq rfl (q_assign rfl) <|
      sq_end) ?_
    clear hF hS; intro a w hF hS
    refine hK12 _ _ ?_
    clear hK12
    refine reg hF hS (sq rfl (q_addi rfl rfl (by omega)) <|
      sq rfl (q_move rfl) <|
      sq_end) ?_
    clear hF hS; intro a w hF hS
    replace hS := hS.keep zQ (sQ.n)
    refine ⟨(k + 1), ?_, ?_, hF.sub ⟨(by show some (vs _) = some (vs _); rw [Jn.txs_step (by omega)]), rfl, rfl, rfl, rfl, rfl, trivial⟩, ?_⟩
    ·(try dsimp only); omega
    ·exact ⟨by omega, Jn.mts_step (by omega) hmt hc3⟩
    ·exact hS
  ·have hke : k = (Jn.cnt (Jn.f0 xs).l).toNat := by omega
   rw [show (List.drop 0 (List.take (Jn.cnt (Jn.f0 xs).l).toNat xs)).take k = xs.take (Jn.cnt (Jn.f0 xs).l).toNat from by rw [List.take_of_length_le (by omega)]; rfl] at hF hmt
   refine wp_exit ?_
   refine hK8 _ _ ?_
   clear hK8
   refine wp_seq_k ?_; intro K17 hK17
   refine reg hF hS (sq rfl (q_move rfl) <|
     sq rfl (q_move rfl) <|
     sq rfl (q_assign rfl) <|
     sq rfl (q_assign rfl) <|
     sq rfl (q_assign rfl) <|
     sq_end) ?_
   clear hF hS; intro a w hF hS
   refine hK17 _ _ ?_
   clear hK17
   refine wp_ret ?_
   exact fn_ret (rs := [.tmp 2, .tmp 3, .tmp 4]) rfl hF hS (vs := [_, _, _]) ⟨rfl, rfl, rfl, trivial⟩ zQ zQ (by rw [Jn.rec_3 h0 hc1 hcp hmt, Int.toNat_of_nonneg hcr.1])

set_option maxRecDepth 4000 in
set_option maxHeartbeats 2000000 in
theorem clonei_ct (v : Value) (xs : List (Int)) (hl : xs.length < 1048576) (w : World) (hb : Sl Go.Fw.encI (ph w) v xs) : Ct Tryz.prog 62 [v] w (fun r zs hs => zs = [] ∧ hs = [.row r 3 1 xs.length (xs.map vi)]) := by
 refine fn_enter Tryz.func62 rfl Tryz.ntmps62 (Nat.le_of_ble_eq_true rfl) fun a hF hS => ?_
 have hbl := hb.1
 refine wp_seq_k ?_; intro K1 hK1
 refine reg hF hS (sq rfl (q_assign rfl) <|
   sq_end) ?_
 clear hF hS; intro a w hF hS
 refine hK1 _ _ ?_
 clear hK1
 refine wp_seq_k ?_; intro K2 hK2
 refine wp_seq_k ?_; intro K3 hK3
 refine reg hF hS (sq rfl (q_move rfl) <|
   sq rfl (q_eqnil ty51 hb rfl rfl) <|
   sq_end) ?_
 clear hF hS; intro a w hF hS
 refine hK3 _ _ ?_
 clear hK3
 refine wp_if hF rfl (fun hc1 => ?_) (fun hc1 => ?_)
 ·obtain rfl := nilS_nil hb hc1
  refine wp_seq_k ?_; intro K4 hK4
  refine reg hF hS (sq rfl (q_assign rfl) <|
    sq_end) ?_
  clear hF hS; intro a w hF hS
  replace hS := hS.nilRow 3 1
  refine hK4 _ _ ?_
  clear hK4
  refine wp_ret ?_
  exact fn_ret (rs := [.tmp 2]) rfl hF hS (vs := [_]) ⟨rfl, trivial⟩ sQ sQ ⟨rfl, rfl⟩
 ·refine wp_skip ?_
  refine hK2 _ _ ?_
  clear hK2
  refine wp_seq_k ?_; intro K5 hK5
  refine regl ?_
  refine wpl_ef hF hS rfl (ef_bslice0 ty51 ty3) ?_
  clear hF hS; rintro v1 _ _ a w ⟨rfl, rfl⟩ hF hS
  replace hS : St _ [] [_] _ := hS
  refine wpl_sq hF hS (sq rfl (q_move rfl) <|
    sq_end) ?_
  clear hF hS; intro a w hF hS
  refine wpl_ef hF hS rfl (ef_append ty51 ty3 0 rfl rfl rfl (src_slV ty51 hb zin0) bQ rfl (by decide)) ?_
  clear hF hS; rintro v3 _ _ a w ⟨rfl, rfl⟩ hF hS
  replace hS : St _ [] [_] _ := hS
  refine wpl_sq hF hS (sq rfl (q_assign rfl) <|
    sq_end) ?_
  clear hF hS; intro a w hF hS
  refine wpList_nil ?_
  replace hS := hS.rowEq (Nat.zero_add _) (List.nil_append _)
  refine hK5 _ _ ?_
  clear hK5
  refine wp_ret ?_
  exact fn_ret (rs := [.tmp 2]) rfl hF hS (vs := [_]) ⟨rfl, trivial⟩ sQ sQ ⟨rfl, rfl⟩

set_option maxRecDepth 4000 in
set_option maxHeartbeats 2000000 in
theorem clones_ct (v : Value) (xs : List (List UInt8)) (hl : xs.length < 1048576) (w : World) (hb : Sl Go.Fw.encS (ph w) v xs) : Ct Tryz.prog 61 [v] w (fun r zs hs => zs = [] ∧ hs = [.row r 9 1 xs.length (xs.map vs)]) := by
 refine fn_enter Tryz.func61 rfl Tryz.ntmps61 (Nat.le_of_ble_eq_true rfl) fun a hF hS => ?_
 have hbl := hb.1
 refine wp_seq_k ?_; intro K1 hK1
 refine reg hF hS (sq rfl (q_assign rfl) <|
   sq_end) ?_
 clear hF hS; intro a w hF hS
 refine hK1 _ _ ?_
 clear hK1
 refine wp_seq_k ?_; intro K2 hK2
 refine wp_seq_k ?_; intro K3 hK3
 refine reg hF hS (sq rfl (q_move rfl) <|
   sq rfl (q_eqnil ty22 hb rfl rfl) <|
   sq_end) ?_
 clear hF hS; intro a w hF hS
 refine hK3 _ _ ?_
 clear hK3
 refine wp_if hF rfl (fun hc1 => ?_) (fun hc1 => ?_)
 ·obtain rfl := nilS_nil hb hc1
  refine wp_seq_k ?_; intro K4 hK4
  refine reg hF hS (sq rfl (q_assign rfl) <|
    sq_end) ?_
  clear hF hS; intro a w hF hS
  replace hS := hS.nilRow 9 1
  refine hK4 _ _ ?_
  clear hK4
  refine wp_ret ?_
  exact fn_ret (rs := [.tmp 2]) rfl hF hS (vs := [_]) ⟨rfl, trivial⟩ sQ sQ ⟨rfl, rfl⟩
 ·refine wp_skip ?_
  refine hK2 _ _ ?_
  clear hK2
  refine wp_seq_k ?_; intro K5 hK5
  refine regl ?_
  refine wpl_ef hF hS rfl (ef_bslice0 ty22 ty9) ?_
  clear hF hS; rintro v1 _ _ a w ⟨rfl, rfl⟩ hF hS
  replace hS : St _ [] [_] _ := hS
  refine wpl_sq hF hS (sq rfl (q_move rfl) <|
    sq_end) ?_
  clear hF hS; intro a w hF hS
  refine wpl_ef hF hS rfl (ef_append ty22 ty9 0 rfl rfl rfl (src_slV ty22 hb zin0) bQ rfl (by decide)) ?_
  clear hF hS; rintro v3 _ _ a w ⟨rfl, rfl⟩ hF hS
  replace hS : St _ [] [_] _ := hS
  refine wpl_sq hF hS (sq rfl (q_assign rfl) <|
    sq_end) ?_
  clear hF hS; intro a w hF hS
  refine wpList_nil ?_
  replace hS := hS.rowEq (Nat.zero_add _) (List.nil_append _)
  refine hK5 _ _ ?_
  clear hK5
  refine wp_ret ?_
  exact fn_ret (rs := [.tmp 2]) rfl hF hS (vs := [_]) ⟨rfl, trivial⟩ sQ sQ ⟨rfl, rfl⟩
end Go.Proofs.YtibbhobfdbfkkaaGreatDoor
end

section
namespace Go.Proofs.YtibbhobfdbfkkaaGreatDoor
open Go.Fw
theorem ty89 : Tf Tryz.prog 89 (.struct #[⟨ "d", 24, 0, false, "", "culprit/journal", 0⟩, ⟨ "numbers", 51, 1, false, "", "culprit/journal", 8⟩, ⟨ "bad", 51, 2, false, "", "culprit/journal", 32⟩, ⟨ "texts", 22, 3, false, "", "culprit/journal", 56⟩, ⟨ "next", 3, 4, false, "", "culprit/journal", 80⟩, ⟨ "end", 3, 5, false, "", "culprit/journal", 88⟩, ⟨ "closed", 4, 6, false, "", "culprit/journal", 96⟩]) 7 104 (.agg ([Value.pointer none] ++ [Value.slice none 0 0, Value.slice none 0 0, Value.slice none 0 0] ++ [Value.int .i64 0, Value.int .i64 0] ++ [Value.bool false]).toArray) := ⟨Tryz.underlying89, by kernel_rfl⟩
theorem fn61 : FnOk Tryz.prog 61 := ⟨_, Tryz.func61, rfl, by kernel_rfl⟩
theorem fn62 : FnOk Tryz.prog 62 := ⟨_, Tryz.func62, rfl, by kernel_rfl⟩

abbrev JJ := Jn.JOk 89 3 9

attribute [local irreducible] Sha.sum Jn.good Jn.hd Jn.lb Jn.cnt

set_option maxRecDepth 4000 in
set_option maxHeartbeats 2000000 in
theorem jnext_ct (b pd : Nat) (J : Jn.JS) (w0 : World) (zsr : List PH) {q1 q2 q3 q4 : Res} (hJ : JJ b pd J q1 q2 q3 q4) : Cx Tryz.prog 37 [.pointer (some ⟨b, 0, none⟩)] w0 zsr [q1, q2, q3, q4] (Jn.JR (JJ b pd) J (vi J.next)) := by
 refine fn_enterx Tryz.func37 rfl Tryz.ntmps37 (Nat.le_of_ble_eq_true rfl) fun hsr a w hF hS => ?_
 replace hS : St _ (_) (_ :: _ :: _ :: _ :: _) _ := hS
 obtain ⟨vn, vbd, vt, hWf, rfl, rfl, rfl, rfl⟩ := hJ
 have hj1 := hWf.n1
 have hj2 := hWf.n2
 have hj3 := hWf.e1
 have hj4 := hWf.e2
 have hj5 := hWf.nl
 have hj6 := hWf.tl
 have hj7 := hWf.bl
 have hj8 := hWf.nr'
 have hj9 := hWf.br'
 have hj10 := hWf.tr'
 replace hS : St _ (_) (_ :: _ :: _ :: _ :: _) _ := hS
 refine wp_seq_k ?_; intro K1 hK1
 refine reg hF hS (sq rfl (q_assign rfl) <|
   sq_end) ?_
 clear hF hS; intro a w hF hS
 refine hK1 _ _ ?_
 clear hK1
 refine wp_seq_k ?_; intro K2 hK2
 refine reg hF hS (sq rfl (q_move rfl) <|
   sq rfl (q_nilCheck rfl) <|
   sq rfl (q_fieldAddr ty89 rfl rfl (s' := 0) kQ) <|
   sq rfl (q_ld_blk1 ty3 0 rfl rfl rfl rfl) <|
   sq rfl (q_assign rfl) <|
   sq_end) ?_
 clear hF hS; intro a w hF hS
 refine hK2 _ _ ?_
 clear hK2
 refine wp_ret ?_
 exact fn_retx (rs := [.tmp 2]) rfl hF hS (vs := [_]) ⟨rfl, trivial⟩ [] [_, _, _, _] sQ sQ (Jn.jr_of ⟨rfl, rfl, _, _, _, _, rfl, ⟨vn, vbd, vt, hWf, rfl, rfl, rfl, rfl⟩⟩ rfl rfl)

set_option maxRecDepth 4000 in
set_option maxHeartbeats 2000000 in
theorem jnumbers_ct (b pd : Nat) (J : Jn.JS) (w0 : World) (zsr : List PH) {q1 q2 q3 q4 : Res} (hJ : JJ b pd J q1 q2 q3 q4) : Cx Tryz.prog 42 [.pointer (some ⟨b, 0, none⟩)] w0 zsr [q1, q2, q3, q4] (Jn.JRw (JJ b pd) 3 J J.nums.length (J.nums.map vi)) := by
 refine fn_enterx Tryz.func42 rfl Tryz.ntmps42 (Nat.le_of_ble_eq_true rfl) fun hsr a w hF hS => ?_
 replace hS : St _ (_) (_ :: _ :: _ :: _ :: _) _ := hS
 obtain ⟨vn, vbd, vt, hWf, rfl, rfl, rfl, rfl⟩ := hJ
 have hj1 := hWf.n1
 have hj2 := hWf.n2
 have hj3 := hWf.e1
 have hj4 := hWf.e2
 have hj5 := hWf.nl
 have hj6 := hWf.tl
 have hj7 := hWf.bl
 have hj8 := hWf.nr'
 have hj9 := hWf.br'
 have hj10 := hWf.tr'
 replace hS : St _ (_) (_ :: _ :: _ :: _ :: _) _ := hS
 refine wp_seq_k ?_; intro K1 hK1
 refine reg hF hS (sq rfl (q_assign rfl) <|
   sq_end) ?_
 clear hF hS; intro a w hF hS
 refine hK1 _ _ ?_
 clear hK1
 refine wp_seq_k ?_; intro K2 hK2
 refine regl ?_
 refine wpl_sq hF hS (sq rfl (q_move rfl) <|
   sq rfl (q_nilCheck rfl) <|
   sq rfl (q_fieldAddr ty89 rfl rfl (s' := 0) kQ) <|
   sq rfl (q_ld_blk1 ty51 0 rfl rfl rfl rfl) <|
   sq_end) ?_
 clear hF hS; intro a w hF hS
 refine wpl_ef hF hS rfl (ef_call fn62 rfl (fun w hS => clonei_ct _ _ (by first | assumption | omega) w (own_slV (hS.own _ (List.mem_of_getElem? (i := 1) rfl)).1 (by first | assumption | (simp; done)) (by first | rfl | (simp; done) | (simp; omega) | omega) (by first | omega | (simp; omega))))) ?_
 clear hF hS; rintro v1 _ _ a w ⟨_, _, rfl, rfl, ⟨rfl, rfl⟩⟩ hF hS
 replace hS : St _ (_) (_ :: _ :: _ :: _ :: _ :: _) _ := hS
 refine wpl_sq hF hS (sq rfl (q_assign rfl) <|
   sq_end) ?_
 clear hF hS; intro a w hF hS
 refine wpList_nil ?_
 refine hK2 _ _ ?_
 clear hK2
 refine wp_ret ?_
 exact fn_retx (rs := [.tmp 2]) rfl hF hS (vs := [_]) ⟨rfl, trivial⟩ [] [_, _, _, _, _] sQ sQ (Jn.jrw_of ⟨rfl, _, _, _, _, rfl, ⟨vn, vbd, vt, hWf, rfl, rfl, rfl, rfl⟩⟩ rfl rfl)

set_option maxRecDepth 4000 in
set_option maxHeartbeats 2000000 in
theorem jtexts_ct (b pd : Nat) (J : Jn.JS) (w0 : World) (zsr : List PH) {q1 q2 q3 q4 : Res} (hJ : JJ b pd J q1 q2 q3 q4) : Cx Tryz.prog 21 [.pointer (some ⟨b, 0, none⟩)] w0 zsr [q1, q2, q3, q4] (Jn.JRw (JJ b pd) 9 J J.tx.length (J.tx.map vs)) := by
 refine fn_enterx Tryz.func21 rfl Tryz.ntmps21 (Nat.le_of_ble_eq_true rfl) fun hsr a w hF hS => ?_
 replace hS : St _ (_) (_ :: _ :: _ :: _ :: _) _ := hS
 obtain ⟨vn, vbd, vt, hWf, rfl, rfl, rfl, rfl⟩ := hJ
 have hj1 := hWf.n1
 have hj2 := hWf.n2
 have hj3 := hWf.e1
 have hj4 := hWf.e2
 have hj5 := hWf.nl
 have hj6 := hWf.tl
 have hj7 := hWf.bl
 have hj8 := hWf.nr'
 have hj9 := hWf.br'
 have hj10 := hWf.tr'
 replace hS : St _ (_) (_ :: _ :: _ :: _ :: _) _ := hS
 refine wp_seq_k ?_; intro K1 hK1
 refine reg hF hS (sq rfl (q_assign rfl) <|
   sq_end) ?_
 clear hF hS; intro a w hF hS
 refine hK1 _ _ ?_
 clear hK1
 refine wp_seq_k ?_; intro K2 hK2
 refine regl ?_
 refine wpl_sq hF hS (sq rfl (q_move rfl) <|
   sq rfl (q_nilCheck rfl) <|
   sq rfl (q_fieldAddr ty89 rfl rfl (s' := 0) kQ) <|
   sq rfl (q_ld_blk1 ty22 0 rfl rfl rfl rfl) <|
   sq_end) ?_
 clear hF hS; intro a w hF hS
 refine wpl_ef hF hS rfl (ef_call fn61 rfl (fun w hS => clones_ct _ _ (by first | assumption | omega) w (own_slV (hS.own _ (List.mem_of_getElem? (i := 3) rfl)).1 (by first | assumption | (simp; done)) (by first | rfl | (simp; done) | (simp; omega) | omega) (by first | omega | (simp; omega))))) ?_
 clear hF hS; rintro v1 _ _ a w ⟨_, _, rfl, rfl, ⟨rfl, rfl⟩⟩ hF hS
 replace hS : St _ (_) (_ :: _ :: _ :: _ :: _ :: _) _ := hS
 refine wpl_sq hF hS (sq rfl (q_assign rfl) <|
   sq_end) ?_
 clear hF hS; intro a w hF hS
 refine wpList_nil ?_
 refine hK2 _ _ ?_
 clear hK2
 refine wp_ret ?_
 exact fn_retx (rs := [.tmp 2]) rfl hF hS (vs := [_]) ⟨rfl, trivial⟩ [] [_, _, _, _, _] sQ sQ (Jn.jrw_of ⟨rfl, _, _, _, _, rfl, ⟨vn, vbd, vt, hWf, rfl, rfl, rfl, rfl⟩⟩ rfl rfl)

set_option maxRecDepth 4000 in
set_option maxHeartbeats 2000000 in
theorem jbad_ct (b pd : Nat) (J : Jn.JS) (w0 : World) (zsr : List PH) {q1 q2 q3 q4 : Res} (hJ : JJ b pd J q1 q2 q3 q4) : Cx Tryz.prog 22 [.pointer (some ⟨b, 0, none⟩)] w0 zsr [q1, q2, q3, q4] (Jn.JRw (JJ b pd) 3 J J.bad.length (J.bad.map vi)) := by
 refine fn_enterx Tryz.func22 rfl Tryz.ntmps22 (Nat.le_of_ble_eq_true rfl) fun hsr a w hF hS => ?_
 replace hS : St _ (_) (_ :: _ :: _ :: _ :: _) _ := hS
 obtain ⟨vn, vbd, vt, hWf, rfl, rfl, rfl, rfl⟩ := hJ
 have hj1 := hWf.n1
 have hj2 := hWf.n2
 have hj3 := hWf.e1
 have hj4 := hWf.e2
 have hj5 := hWf.nl
 have hj6 := hWf.tl
 have hj7 := hWf.bl
 have hj8 := hWf.nr'
 have hj9 := hWf.br'
 have hj10 := hWf.tr'
 replace hS : St _ (_) (_ :: _ :: _ :: _ :: _) _ := hS
 refine wp_seq_k ?_; intro K1 hK1
 refine reg hF hS (sq rfl (q_assign rfl) <|
   sq_end) ?_
 clear hF hS; intro a w hF hS
 refine hK1 _ _ ?_
 clear hK1
 refine wp_seq_k ?_; intro K2 hK2
 refine regl ?_
 refine wpl_sq hF hS (sq rfl (q_move rfl) <|
   sq rfl (q_nilCheck rfl) <|
   sq rfl (q_fieldAddr ty89 rfl rfl (s' := 0) kQ) <|
   sq rfl (q_ld_blk1 ty51 0 rfl rfl rfl rfl) <|
   sq_end) ?_
 clear hF hS; intro a w hF hS
 refine wpl_ef hF hS rfl (ef_call fn62 rfl (fun w hS => clonei_ct _ _ (by first | assumption | omega) w (own_slV (hS.own _ (List.mem_of_getElem? (i := 2) rfl)).1 (by first | assumption | (simp; done)) (by first | rfl | (simp; done) | (simp; omega) | omega) (by first | omega | (simp; omega))))) ?_
 clear hF hS; rintro v1 _ _ a w ⟨_, _, rfl, rfl, ⟨rfl, rfl⟩⟩ hF hS
 replace hS : St _ (_) (_ :: _ :: _ :: _ :: _ :: _) _ := hS
 refine wpl_sq hF hS (sq rfl (q_assign rfl) <|
   sq_end) ?_
 clear hF hS; intro a w hF hS
 refine wpList_nil ?_
 refine hK2 _ _ ?_
 clear hK2
 refine wp_ret ?_
 exact fn_retx (rs := [.tmp 2]) rfl hF hS (vs := [_]) ⟨rfl, trivial⟩ [] [_, _, _, _, _] sQ sQ (Jn.jrw_of ⟨rfl, _, _, _, _, rfl, ⟨vn, vbd, vt, hWf, rfl, rfl, rfl, rfl⟩⟩ rfl rfl)
end Go.Proofs.YtibbhobfdbfkkaaGreatDoor
end
