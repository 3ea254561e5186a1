/- A text of a proof over this seat: walks over the program's functions and the plain laws that they need. -/
import Derived.Test.YtdojfnigffeblaaDoorMh7
import Derived.Test.YtdojfnigffeblaaDoorShW
import Derived.Test.YtdojfnigffeblaaDoorFwB
set_option linter.all false
namespace Go.Proofs.YtdojfnigffeblaaDoor
open Go.Fw
theorem fn110 : FnOk Tryd.prog 110 := ⟨_, Tryd.func110, rfl, by kernel_rfl⟩

set_option maxRecDepth 4000 in
set_option maxHeartbeats 2000000 in
theorem rrotr_ct (x : UInt32) (n : Int) (hn : 0 < n ∧ n < 32) (w : World) : Ct Tryd.prog 110 [vw x, vi n] w (fun r _ _ => r = vw (Sha.rotr x (UInt32.ofNat n.toNat))) := by
 refine fn_enter Tryd.func110 rfl Tryd.ntmps110 (Nat.le_of_ble_eq_true rfl) fun a hF hS => ?_
 refine wp_seq_k ?_; intro K1 hK1
 refine reg hF hS (sq rfl (q_assign rfl) <|
   sq_end) ?_
 clear hF hS; intro a w hF hS
 refine hK1 _ _ ?_
 clear hK1
 refine wp_seq_k ?_; intro K2 hK2
 refine regd mixed kQ hF hS (sq rfl (q_move rfl) <|
   sq rfl (q_move rfl) <|
   sq rfl (q_shrw rfl rfl (by omega)) <|
   sq rfl (q_move rfl) <|
   sq rfl (q_move rfl) <|
   sq rfl (q_subi rfl rfl (by omega)) <|
   sq rfl (q_shlw rfl rfl (by omega)) <|
   sq rfl (q_orw rfl rfl) <|
   sq rfl (q_assign rfl) <|
   sq_end) ?_
 clear hF hS; intro a w hF hS
 refine hK2 _ _ ?_
 clear hK2
 refine wp_ret ?_
 exact fn_ret (rs := [.tmp 4]) rfl hF hS (vs := [_]) ⟨rfl, trivial⟩ zQ zQ (by rw [Sha.rotr_q x n hn])

set_option maxRecDepth 4000 in
set_option maxHeartbeats 2000000 in
theorem rpad_ct (v : Value) (xs : List UInt8) (hx : xs.length < 1099511627776) (w : World) (hb : Sl encB (ph w) v xs) : Ct Tryd.prog 108 [v] w (fun r zs hs => ∃ z, Sl encB z r (xs ++ Sha.pad (ofq xs.length)) ∧ zs = [z] ∧ hs = []) := by
 refine fn_enter Tryd.func108 rfl Tryd.ntmps108 (Nat.le_of_ble_eq_true rfl) fun a hF hS => ?_
 have hz := Sha.zeros_lt xs.length
 have hbe := Sha.be8_len (8 * ofq xs.length)
 refine wp_seq_k ?_; intro K1 hK1
 refine reg hF hS (sq rfl (q_assign rfl) <|
   sq_end) ?_
 clear hF hS; intro a w hF hS
 refine hK1 _ _ ?_
 clear hK1
 refine wp_seq_k ?_; intro K2 hK2
 refine regl ?_
 refine wpl_ef hF hS rfl (ef_bslice0 ty39 ty5) ?_
 clear hF hS; rintro v1 _ _ a w ⟨rfl, rfl⟩ hF hS
 replace hS : St _ [] [_] _ := hS
 refine wpl_sq hF hS (sq rfl (q_move rfl) <|
   sq_end) ?_
 clear hF hS; intro a w hF hS
 refine wpl_ef hF hS rfl (ef_append ty39 ty5 0 rfl rfl rfl (src_slV ty39 hb zin0) bQ rfl (by decide)) ?_
 clear hF hS; rintro v3 _ _ a w ⟨rfl, rfl⟩ hF hS
 replace hS : St _ [] [_] _ := hS
 refine wpl_sq hF hS (sq rfl (q_assign rfl) <|
   sq_end) ?_
 clear hF hS; intro a w hF hS
 refine wpList_nil ?_
 refine hK2 _ _ ?_
 clear hK2
 refine wp_seq_k ?_; intro K3 hK3
 refine regl ?_
 refine wpl_sq hF hS (sq rfl (q_move rfl) <|
   sq_end) ?_
 clear hF hS; intro a w hF hS
 refine wpl_ef hF hS rfl (ef_bsliceA ty39 ty5 rfl rfl oQ (by decide) rfl rfl) ?_
 clear hF hS; rintro v4 _ _ a w ⟨rfl, rfl⟩ hF hS
 replace hS : St _ [] [_, _] _ := hS
 refine wpl_ef hF hS rfl (ef_append ty39 ty5 1 rfl rfl rfl (src_row ty39 (k := 0) rfl oQ) bQ rfl (by decide)) ?_
 clear hF hS; rintro v6 _ _ a w ⟨rfl, rfl⟩ hF hS
 replace hS : St _ [] [_, _] _ := hS
 refine wpl_sq hF hS (sq rfl (q_assign rfl) <|
   sq_end) ?_
 clear hF hS; intro a w hF hS
 refine wpList_nil ?_
 refine hK3 _ _ ?_
 clear hK3
 refine wp_seq_k ?_; intro K4 hK4
 refine wp_block ?_
 obtain ⟨hs0, hhs0, hS⟩ : ∃ h, h = _ ∧ St _ _ h _ := ⟨_, rfl, hS⟩
 refine wp_loopx (γ := Value × Nat) (v6, 0) (fun (gg : Value × Nat) => match gg with | (v', j) => [(3, v')]) [(0, _)] (fun (gg : Value × Nat) => match gg with | (v', j) => (hs0.set 1 (.row v' 5 1 (xs.length + (1 + j)) ((xs ++ 128 :: List.replicate j (0 : UInt8)).map vb)))) (fun (gg : Value × Nat) => match gg with | (v', j) => j ≤ Sha.zerosFor xs.length) (fun (gg : Value × Nat) => match gg with | (v', j) => Sha.zerosFor xs.length - j) (hF.sub ⟨rfl, rfl, trivial⟩) (by subst hhs0; simp at hS; simp; exact hS) (by exact Nat.zero_le _) ?_
 clear hF hS; rintro ⟨v', j⟩ a w hfact hF hS
 subst hhs0; (try dsimp only at hfact); (try dsimp only at hF); (try dsimp only at hS)
 have hj := hfact
 replace hS : St _ [] [_, _] _ := hS
 refine wp_seq_k ?_; intro K5 hK5
 refine wp_seq_k ?_; intro K6 hK6
 refine reg hF hS (sq rfl (q_move rfl) <|
   sq rfl (q_len_row ty39 1 rfl rfl) <|
   sq rfl (q_remi rfl rfl (by omega)) <|
   sq rfl (q_nei rfl rfl) <|
   sq_end) ?_
 clear hF hS; intro a w hF hS
 refine hK6 _ _ ?_
 clear hK6
 refine wp_ifn hF rfl (fun hc1 => ?_) (fun hc1 => ?_)
 ·have hjl : j < Sha.zerosFor xs.length := by
   have := Sha.zeros_at xs.length
   rcases Nat.lt_or_ge j (Sha.zerosFor xs.length) with h | h
   ·exact h
   ·obtain rfl : j = Sha.zerosFor xs.length := by omega
    omega
  refine wp_skip ?_
  refine hK5 _ _ ?_
  clear hK5
  refine wp_block ?_
  refine regl ?_
  refine wpl_sq hF hS (sq rfl (q_move rfl) <|
    sq_end) ?_
  clear hF hS; intro a w hF hS
  refine wpl_ef hF hS rfl (ef_bsliceA ty39 ty5 rfl rfl oQ (by decide) rfl rfl) ?_
  clear hF hS; rintro v7 _ _ a w ⟨rfl, rfl⟩ hF hS
  replace hS : St _ [] [_, _, _] _ := hS
  refine wpl_ef hF hS rfl (ef_append ty39 ty5 2 rfl rfl rfl (src_row ty39 (k := 0) rfl oQ) bQ rfl (by decide)) ?_
  clear hF hS; rintro v9 _ _ a w ⟨rfl, rfl⟩ hF hS
  replace hS : St _ [] [_, _, _] _ := hS
  refine wpl_sq hF hS (sq rfl (q_assign rfl) <|
    sq_end) ?_
  clear hF hS; intro a w hF hS
  refine wpList_nil ?_
  replace hS := hS.keep zQ (sQ.n)
  refine ⟨(v9, j + 1), ?_, ?_, hF.sub ⟨rfl, rfl, trivial⟩, ?_⟩
  ·(try dsimp only); omega
  ·(try dsimp only); omega
  ·have e : (xs ++ 128 :: List.replicate j (0 : UInt8)).map vb ++ [Value.int .u8 0] = (xs ++ 128 :: List.replicate (j + 1) (0 : UInt8)).map vb := by rw [List.replicate_succ']; simp
   rw [e] at hS
   exact hS
 ·have hjz := Sha.zeros_un xs.length j hj (by omega)
  subst hjz
  refine wp_exit ?_
  refine hK4 _ _ ?_
  clear hK4
  refine wp_seq_k ?_; intro K7 hK7
  refine reg hF hS (sq rfl (q_move rfl) <|
    sq rfl (q_len_sl ty39 hb rfl) <|
    sq rfl (q_cv_iq ty3 ty116 rfl) <|
    sq rfl (q_mulq (p := 8) rfl rfl) <|
    sq rfl (q_assign rfl) <|
    sq_end) ?_
  clear hF hS; intro a w hF hS
  refine hK7 _ _ ?_
  clear hK7
  refine wp_seq_k ?_; intro K8 hK8
  refine wp_seq_k ?_; intro K9 hK9
  refine reg hF hS (sq rfl (q_assign rfl) <|
    sq_end) ?_
  clear hF hS; intro a w hF hS
  refine hK9 _ _ ?_
  clear hK9
  refine wp_block ?_
  obtain ⟨hs0, hhs0, hS⟩ : ∃ h, h = _ ∧ St _ _ h _ := ⟨_, rfl, hS⟩
  refine wp_loopx (γ := Value × Int) (v', 0) (fun (gg : Value × Int) => match gg with | (v', i) => [(3, v'), (5, vi i)]) [(4, _)] (fun (gg : Value × Int) => match gg with | (v', i) => (hs0.set 1 (.row v' 5 1 (xs.length + (1 + Sha.zerosFor xs.length) + i.toNat) ((xs ++ 128 :: (List.replicate (Sha.zerosFor xs.length) (0 : UInt8) ++ (Sha.be8 (8 * ofq xs.length)).take i.toNat)).map vb)))) (fun (gg : Value × Int) => match gg with | (v', i) => 0 ≤ i ∧ i ≤ 8) (fun (gg : Value × Int) => match gg with | (v', i) => (8 - i).toNat) (hF.sub ⟨rfl, rfl, rfl, trivial⟩) (by subst hhs0; simpa using hS) (by simp) ?_
  clear hF hS; rintro ⟨v', i⟩ a w hfact hF hS
  subst hhs0; (try dsimp only at hfact); (try dsimp only at hF); (try dsimp only at hS)
  obtain ⟨hi0, hi1⟩ := hfact
  replace hS : St _ [] [_, _] _ := hS
  refine wp_seq_k ?_; intro K10 hK10
  refine wp_seq_k ?_; intro K11 hK11
  refine reg hF hS (sq rfl (q_move rfl) <|
    sq rfl (q_lti rfl rfl) <|
    sq_end) ?_
  clear hF hS; intro a w hF hS
  refine hK11 _ _ ?_
  clear hK11
  refine wp_ifd hF rfl (fun hc2 => ?_) (fun hc2 => ?_)
  ·refine wp_skip ?_
   refine hK10 _ _ ?_
   clear hK10
   refine wp_seq_k ?_; intro K12 hK12
   refine wp_block ?_
   refine regl ?_
   refine wpl_sq hF hS (sq rfl (q_move rfl) <|
     sq rfl (q_move rfl) <|
     sq rfl (q_move rfl) <|
     sq rfl (q_muli rfl rfl (by omega)) <|
     sq rfl (q_subi rfl rfl (by omega)) <|
     sq rfl (q_shrq rfl rfl (by omega)) <|
     sq rfl (q_cv_qb ty116 ty5 rfl) <|
     sq_end) ?_
   clear hF hS; intro a w hF hS
   refine wpl_ef hF hS rfl (ef_bsliceA ty39 ty5 rfl rfl oQ (by decide) rfl rfl) ?_
   clear hF hS; rintro v10 _ _ a w ⟨rfl, rfl⟩ hF hS
   replace hS : St _ [] [_, _, _] _ := hS
   refine wpl_ef hF hS rfl (ef_append ty39 ty5 2 rfl rfl rfl (src_row ty39 (k := 0) rfl oQ) bQ rfl (by decide)) ?_
   clear hF hS; rintro v12 _ _ a w ⟨rfl, rfl⟩ hF hS
   replace hS : St _ [] [_, _, _] _ := hS
   refine wpl_sq hF hS (sq rfl (q_assign rfl) <|
     sq_end) ?_
   clear hF hS; intro a w hF hS
   refine wpList_nil ?_
   refine hK12 _ _ ?_
   clear hK12
   refine reg hF hS (sq rfl (q_move rfl) <|
     sq rfl (q_addi rfl rfl (by omega)) <|
     sq rfl (q_assign rfl) <|
     sq_end) ?_
   clear hF hS; intro a w hF hS
   replace hS := hS.keep zQ (sQ.n)
   refine ⟨(v12, i + 1), ?_, ?_, hF.sub ⟨rfl, rfl, rfl, trivial⟩, ?_⟩
   ·(try dsimp only); omega
   ·(try dsimp only); omega
   ·rw [Sha.byte_q (8 * ofq xs.length) i ⟨hi0, by omega⟩] at hS
    have e : (xs ++ 128 :: (List.replicate (Sha.zerosFor xs.length) (0 : UInt8) ++ (Sha.be8 (8 * ofq xs.length)).take i.toNat)).map vb ++ [vb (UInt8.ofNat ((8 * ofq xs.length).toNat / 2 ^ (56 - 8 * i.toNat)))] = (xs ++ 128 :: (List.replicate (Sha.zerosFor xs.length) (0 : UInt8) ++ (Sha.be8 (8 * ofq xs.length)).take (i + 1).toNat)).map vb := by rw [show (i + 1).toNat = i.toNat + 1 by omega, Sha.be8_step _ _ (by omega)]; simp
    rw [e, show xs.length + (1 + Sha.zerosFor xs.length) + i.toNat + 1 = xs.length + (1 + Sha.zerosFor xs.length) + (i + 1).toNat by omega] at hS
    exact hS
  ·obtain rfl : i = 8 := by omega
   rw [show (8 : Int).toNat = 8 from rfl, List.take_of_length_le (by omega)] at hS
   have hqn : (ofq (xs.length : Int)).toNat = xs.length := by have := ofq_toNat (xs.length : Int); omega
   have hpe : 128 :: (List.replicate (Sha.zerosFor xs.length) (0 : UInt8) ++ Sha.be8 (8 * ofq xs.length)) = Sha.pad (ofq xs.length) := by unfold Sha.pad; rw [hqn]
   rw [hpe] at hS
   refine wp_exit ?_
   refine hK8 _ _ ?_
   clear hK8
   refine wp_seq_k ?_; intro K13 hK13
   refine reg hF hS (sq rfl (q_move rfl) <|
     sq rfl (q_assign rfl) <|
     sq_end) ?_
   clear hF hS; intro a w hF hS
   refine hK13 _ _ ?_
   clear hK13
   refine wp_ret ?_
   have hpl : (xs ++ Sha.pad (ofq xs.length)).length = xs.length + (1 + Sha.zerosFor xs.length) + 8 := by rw [← hpe]; simp [Sha.be8_len]; omega
   obtain ⟨z, hz1, hS⟩ := St.freezeB (hS.perm (.swap _ _ _)) hpl.symm (by omega)
   exact fn_ret (rs := [.tmp 2]) rfl hF hS (vs := [_]) ⟨rfl, trivial⟩ (zs' := [z]) (hs' := []) sQ zQ ⟨z, hz1, rfl, rfl⟩

set_option maxRecDepth 4000 in
set_option maxHeartbeats 2000000 in
theorem rwords_ct (v : Value) (bb : List UInt8) (hl : bb.length = 64) (w : World) (hb : Sl encB (ph w) v bb) : Ct Tryd.prog 109 [v] w (fun r _ _ => r = .agg ((Sha.sch bb 64).map vw).toArray) := by
 refine fn_enter Tryd.func109 rfl Tryd.ntmps109 (Nat.le_of_ble_eq_true rfl) fun a hF hS => ?_
 refine wp_seq_k ?_; intro K1 hK1
 refine regl ?_
 refine wpl_ef hF hS rfl (ef_allocA ty162) ?_
 clear hF hS; rintro _ _ _ a w ⟨b1, rfl, rfl, rfl⟩ hF hS
 rw [show List.replicate 64 (Value.int .u32 0) = (List.replicate 64 (0 : UInt32)).map vw from by rw [List.map_replicate] <;> rfl] at hS
 refine wpList_nil ?_
 refine hK1 _ _ ?_
 clear hK1
 refine wp_seq_k ?_; intro K2 hK2
 refine regl ?_
 refine wpl_ef hF hS rfl (ef_allocA ty162) ?_
 clear hF hS; rintro _ _ _ a w ⟨b2, rfl, rfl, rfl⟩ hF hS
 rw [show List.replicate 64 (Value.int .u32 0) = (List.replicate 64 (0 : UInt32)).map vw from by rw [List.map_replicate] <;> rfl] at hS
 refine wpList_nil ?_
 refine hK2 _ _ ?_
 clear hK2
 refine wp_seq_k ?_; intro K3 hK3
 refine wp_seq_k ?_; intro K4 hK4
 refine reg hF hS (sq rfl (q_assign rfl) <|
   sq_end) ?_
 clear hF hS; intro a w hF hS
 refine hK4 _ _ ?_
 clear hK4
 refine wp_block ?_
 obtain ⟨hs0, hhs0, hS⟩ : ∃ h, h = _ ∧ St _ _ h _ := ⟨_, rfl, hS⟩
 refine wp_loopx (γ := Int) (0) (fun (t : Int) => [(4, vi t)]) [(0, _), (2, _), (3, _)] (fun (t : Int) => (hs0.set 0 (.blk b2 162 ((Sha.schW bb t.toNat).map vw)))) (fun (t : Int) => 0 ≤ t ∧ t ≤ 16) (fun (t : Int) => (16 - t).toNat) (hF.sub ⟨rfl, rfl, rfl, rfl, trivial⟩) (by subst hhs0; exact hS) (by simp) ?_
 clear hF hS; rintro t a w hfact hF hS
 subst hhs0; (try dsimp only at hfact); (try dsimp only at hF); (try dsimp only at hS)
 obtain ⟨ht0, ht1⟩ := hfact
 replace hS : St _ [] [_, _] _ := hS
 have hwl := Sha.schW_len bb t.toNat (by omega)
 refine wp_seq_k ?_; intro K5 hK5
 refine wp_seq_k ?_; intro K6 hK6
 refine reg hF hS (sq rfl (q_move rfl) <|
   sq rfl (q_lti rfl rfl) <|
   sq_end) ?_
 clear hF hS; intro a w hF hS
 refine hK6 _ _ ?_
 clear hK6
 refine wp_ifd hF rfl (fun hc1 => ?_) (fun hc1 => ?_)
 ·refine wp_skip ?_
  refine hK5 _ _ ?_
  clear hK5
  refine wp_seq_k ?_; intro K7 hK7
  refine wp_block ?_
  refine regt 35 mixed kQ hF hS (sq rfl (q_move rfl) <|
    sq rfl (q_move rfl) <|
    sq rfl (q_move rfl) <|
    sq rfl (q_muli rfl rfl (by omega)) <|
    sq rfl (q_idx_sl ty39 ty5 hb rfl rfl (by omega)) <|
    sq rfl (q_ld_B ty5 hb zin0 rfl rfl (by omega)) <|
    sq rfl (q_cv_bw ty5 ty151 rfl) <|
    sq rfl (q_shlw rfl rfl (by omega)) <|
    sq rfl (q_move rfl) <|
    sq rfl (q_move rfl) <|
    sq rfl (q_muli rfl rfl (by omega)) <|
    sq rfl (q_addi rfl rfl (by omega)) <|
    sq rfl (q_idx_sl ty39 ty5 hb rfl rfl (by omega)) <|
    sq rfl (q_ld_B ty5 hb zin0 rfl rfl (by omega)) <|
    sq rfl (q_cv_bw ty5 ty151 rfl) <|
    sq rfl (q_shlw rfl rfl (by omega)) <|
    sq rfl (q_orw rfl rfl) <|
    sq rfl (q_move rfl) <|
    sq rfl (q_move rfl) <|
    sq rfl (q_muli rfl rfl (by omega)) <|
    sq rfl (q_addi rfl rfl (by omega)) <|
    sq rfl (q_idx_sl ty39 ty5 hb rfl rfl (by omega)) <|
    sq rfl (q_ld_B ty5 hb zin0 rfl rfl (by omega)) <|
    sq rfl (q_cv_bw ty5 ty151 rfl) <|
    sq rfl (q_shlw rfl rfl (by omega)) <|
    sq rfl (q_orw rfl rfl) <|
    sq rfl (q_move rfl) <|
    sq rfl (q_move rfl) <|
    sq rfl (q_muli rfl rfl (by omega)) <|
    sq rfl (q_addi rfl rfl (by omega)) <|
    sq rfl (q_idx_sl ty39 ty5 hb rfl rfl (by omega)) <|
    sq rfl (q_ld_B ty5 hb zin0 rfl rfl (by omega)) <|
    sq rfl (q_cv_bw ty5 ty151 rfl) <|
    sq rfl (q_orw rfl rfl) <|
    sq rfl (q_idx_arr0 ty162 ty151 rfl rfl (by omega)) <|
    sq_end) ?_
  clear hF hS; intro a w hF hS
  refine wpl_ef hF hS rfl (ef_st_blkM ty151 0 rfl rfl rfl bQ rfl) ?_
  clear hF hS; rintro _ _ _ a w ⟨rfl, rfl, rfl⟩ hF hS
  replace hS : St _ [] [_, _] _ := hS
  refine wpList_nil ?_
  refine hK7 _ _ ?_
  clear hK7
  refine reg hF hS (sq rfl (q_move rfl) <|
    sq rfl (q_addi rfl rfl (by omega)) <|
    sq rfl (q_assign rfl) <|
    sq_end) ?_
  clear hF hS; intro a w hF hS
  refine ⟨(t + 1), ?_, ?_, hF.sub ⟨rfl, rfl, rfl, rfl, trivial⟩, ?_⟩
  ·(try dsimp only); omega
  ·(try dsimp only); omega
  ·rw [Sha.word_step bb t (by omega) (by omega)] at hS
   exact hS
 ·obtain rfl : t = 16 := by omega
  clear hwl
  refine wp_exit ?_
  refine hK3 _ _ ?_
  clear hK3
  refine wp_seq_k ?_; intro K8 hK8
  refine wp_seq_k ?_; intro K9 hK9
  refine reg hF hS (sq rfl (q_assign rfl) <|
    sq_end) ?_
  clear hF hS; intro a w hF hS
  refine hK9 _ _ ?_
  clear hK9
  refine wp_block ?_
  obtain ⟨hs0, hhs0, hS⟩ : ∃ h, h = _ ∧ St _ _ h _ := ⟨_, rfl, hS⟩
  refine wp_loopx (γ := Int) (16) (fun (t : Int) => [(5, vi t)]) [(2, _), (3, _)] (fun (t : Int) => (hs0.set 0 (.blk b2 162 ((Sha.schW bb t.toNat).map vw)))) (fun (t : Int) => 16 ≤ t ∧ t ≤ 64) (fun (t : Int) => (64 - t).toNat) (hF.sub ⟨rfl, rfl, rfl, trivial⟩) (by subst hhs0; exact hS) (by simp) ?_
  clear hF hS; rintro t a w hfact hF hS
  subst hhs0; (try dsimp only at hfact); (try dsimp only at hF); (try dsimp only at hS)
  obtain ⟨ht0, ht1⟩ := hfact
  replace hS : St _ [] [_, _] _ := hS
  have hwl := Sha.schW_len bb t.toNat (by omega)
  refine wp_seq_k ?_; intro K10 hK10
  refine wp_seq_k ?_; intro K11 hK11
  refine reg hF hS (sq rfl (q_move rfl) <|
    sq rfl (q_lti rfl rfl) <|
    sq_end) ?_
  clear hF hS; intro a w hF hS
  refine hK11 _ _ ?_
  clear hK11
  refine wp_ifd hF rfl (fun hc2 => ?_) (fun hc2 => ?_)
  ·refine wp_skip ?_
   refine hK10 _ _ ?_
   clear hK10
   refine wp_seq_k ?_; intro K12 hK12
   refine wp_block ?_
   refine wp_seq_k ?_; intro K13 hK13
   refine regd mixed kQ hF hS (sq rfl (q_move rfl) <|
     sq rfl (q_subi rfl rfl (by omega)) <|
     sq rfl (q_idx_arr0 ty162 ty151 rfl rfl (by omega)) <|
     sq rfl (q_ld_blkM ty151 0 0 rfl rfl bQ rfl) <|
     sq rfl (q_call fn110 rfl (fun w hS => rrotr_ct _ _ (by omega) w ) (fun _ _ _ h => h)) <|
     sq rfl (q_move rfl) <|
     sq rfl (q_subi rfl rfl (by omega)) <|
     sq rfl (q_idx_arr0 ty162 ty151 rfl rfl (by omega)) <|
     sq rfl (q_ld_blkM ty151 0 0 rfl rfl bQ rfl) <|
     sq rfl (q_call fn110 rfl (fun w hS => rrotr_ct _ _ (by omega) w ) (fun _ _ _ h => h)) <|
     sq rfl (q_xorw rfl rfl) <|
     sq rfl (q_move rfl) <|
     sq rfl (q_subi rfl rfl (by omega)) <|
     sq rfl (q_idx_arr0 ty162 ty151 rfl rfl (by omega)) <|
     sq rfl (q_ld_blkM ty151 0 0 rfl rfl bQ rfl) <|
     sq rfl (q_shrw rfl rfl (by omega)) <|
     sq rfl (q_xorw rfl rfl) <|
     sq rfl (q_assign rfl) <|
     sq_end) ?_
   clear hF hS; intro a w hF hS
   refine hK13 _ _ ?_
   clear hK13
   refine wp_seq_k ?_; intro K14 hK14
   refine regd mixed kQ hF hS (sq rfl (q_move rfl) <|
     sq rfl (q_subi rfl rfl (by omega)) <|
     sq rfl (q_idx_arr0 ty162 ty151 rfl rfl (by omega)) <|
     sq rfl (q_ld_blkM ty151 0 0 rfl rfl bQ rfl) <|
     sq rfl (q_call fn110 rfl (fun w hS => rrotr_ct _ _ (by omega) w ) (fun _ _ _ h => h)) <|
     sq rfl (q_move rfl) <|
     sq rfl (q_subi rfl rfl (by omega)) <|
     sq rfl (q_idx_arr0 ty162 ty151 rfl rfl (by omega)) <|
     sq rfl (q_ld_blkM ty151 0 0 rfl rfl bQ rfl) <|
     sq rfl (q_call fn110 rfl (fun w hS => rrotr_ct _ _ (by omega) w ) (fun _ _ _ h => h)) <|
     sq rfl (q_xorw rfl rfl) <|
     sq rfl (q_move rfl) <|
     sq rfl (q_subi rfl rfl (by omega)) <|
     sq rfl (q_idx_arr0 ty162 ty151 rfl rfl (by omega)) <|
     sq rfl (q_ld_blkM ty151 0 0 rfl rfl bQ rfl) <|
     sq rfl (q_shrw rfl rfl (by omega)) <|
     sq rfl (q_xorw rfl rfl) <|
     sq rfl (q_assign rfl) <|
     sq_end) ?_
   clear hF hS; intro a w hF hS
   refine hK14 _ _ ?_
   clear hK14
   refine regt 15 mixed kQ hF hS (sq rfl (q_move rfl) <|
     sq rfl (q_move rfl) <|
     sq rfl (q_subi rfl rfl (by omega)) <|
     sq rfl (q_idx_arr0 ty162 ty151 rfl rfl (by omega)) <|
     sq rfl (q_ld_blkM ty151 0 0 rfl rfl bQ rfl) <|
     sq rfl (q_move rfl) <|
     sq rfl (q_addw rfl rfl) <|
     sq rfl (q_move rfl) <|
     sq rfl (q_subi rfl rfl (by omega)) <|
     sq rfl (q_idx_arr0 ty162 ty151 rfl rfl (by omega)) <|
     sq rfl (q_ld_blkM ty151 0 0 rfl rfl bQ rfl) <|
     sq rfl (q_addw rfl rfl) <|
     sq rfl (q_move rfl) <|
     sq rfl (q_addw rfl rfl) <|
     sq rfl (q_idx_arr0 ty162 ty151 rfl rfl (by omega)) <|
     sq_end) ?_
   clear hF hS; intro a w hF hS
   refine wpl_ef hF hS rfl (ef_st_blkM ty151 0 rfl rfl rfl bQ rfl) ?_
   clear hF hS; rintro _ _ _ a w ⟨rfl, rfl, rfl⟩ hF hS
   replace hS : St _ [] [_, _] _ := hS
   refine wpList_nil ?_
   refine hK12 _ _ ?_
   clear hK12
   refine reg hF hS (sq rfl (q_move rfl) <|
     sq rfl (q_addi rfl rfl (by omega)) <|
     sq rfl (q_assign rfl) <|
     sq_end) ?_
   clear hF hS; intro a w hF hS
   refine ⟨(t + 1), ?_, ?_, hF.sub ⟨rfl, rfl, rfl, trivial⟩, ?_⟩
   ·(try dsimp only); omega
   ·(try dsimp only); omega
   ·rw [Sha.ref_step bb t (by omega) (by omega)] at hS
    exact hS
  ·obtain rfl : t = 64 := by omega
   rw [show (64 : Int).toNat = 64 from rfl] at hwl
   rw [show (64 : Int).toNat = 64 from rfl, Sha.schW_64] at hS
   have hsl := Sha.sch_len bb 64
   refine wp_exit ?_
   refine hK8 _ _ ?_
   clear hK8
   refine wp_seq_k ?_; intro K15 hK15
   refine regl ?_
   refine wpl_sq hF hS (sq rfl (q_ld_blkW ty162 0 rfl rfl bQ rfl) <|
     sq_end) ?_
   clear hF hS; intro a w hF hS
   refine wpl_ef hF hS rfl (ef_storeW ty162 1 rfl rfl rfl rfl bQ oQ bQ) ?_
   clear hF hS; rintro _ _ _ a w ⟨rfl, rfl, rfl⟩ hF hS
   replace hS : St _ [] [_, _] _ := hS
   refine wpList_nil ?_
   refine hK15 _ _ ?_
   clear hK15
   refine wp_ret ?_
   exact fn_ret (rs := [.cell 2 162]) rfl hF hS (vs := [_]) ⟨⟨_, _, _, _, _, _, _, rfl, List.mem_of_getElem? (i := 1) rfl, ty162, .inl ⟨rfl, bQ, rfl⟩⟩, trivial⟩ zQ zQ (rfl)
end Go.Proofs.YtdojfnigffeblaaDoor
