/- A text of a proof over this seat: walks over the program's functions and the plain laws that they need. -/
import Derived.Test.YtdojfnigffeblaaDoorMh8
import Derived.Test.YtdojfnigffeblaaDoorShW
import Derived.Test.YtdojfnigffeblaaDoorFwB
set_option linter.all false
namespace Go.Proofs.YtdojfnigffeblaaDoor
open Go.Fw
theorem fn108 : FnOk Tryd.prog 108 := ⟨_, Tryd.func108, rfl, by kernel_rfl⟩
theorem fn109 : FnOk Tryd.prog 109 := ⟨_, Tryd.func109, rfl, by kernel_rfl⟩

set_option maxRecDepth 4000 in
set_option maxHeartbeats 2000000 in
theorem rsum_ct (v : Value) (xs : List UInt8) (hx : xs.length < 1099511627776) (w : World) (hb : Sl encB (ph w) v xs) {fz0 : Nat × Nat} {bt0 : TypeId} (hg0 : w.heap[0]? = some (.cells (Sha.kc.map vw).toArray bt0 fz0)) : Ct Tryd.prog 94 [v] w (fun r _ _ => r = .agg ((Sha.sum xs).map vb).toArray) := by
 refine fn_enter Tryd.func94 rfl Tryd.ntmps94 (Nat.le_of_ble_eq_true rfl) fun a hF hS => ?_
 have hsla : ∀ b, (Sha.sch b 64).length = 64 := fun b => Sha.sch_len b 64
 have hkl : Sha.kc.length = 64 := rfl
 have hmp := Sha.mod_pad xs (by omega)
 have hpa := Sha.pad_at xs.length (by omega)
 have hzz := Sha.zeros_lt xs.length
 have hml : (xs ++ Sha.pad (ofq xs.length)).length = xs.length + (1 + Sha.zerosFor xs.length + 8) := by rw [List.length_append, hpa]
 obtain ⟨q, hq⟩ : ∃ q, (xs ++ Sha.pad (ofq xs.length)).length = 64 * q := ⟨(xs ++ Sha.pad (ofq xs.length)).length / 64, by omega⟩
 refine wp_seq_k ?_; intro K1 hK1
 refine regl ?_
 refine wpl_ef hF hS rfl (ef_allocA ty141) ?_
 clear hF hS; rintro _ _ _ a w ⟨b1, rfl, rfl, rfl⟩ hF hS
 rw [show List.replicate 32 (Value.int .u8 0) = (List.replicate 32 (0 : UInt8)).map vb from by rw [List.map_replicate] <;> rfl] at hS
 refine wpList_nil ?_
 refine hK1 _ _ ?_
 clear hK1
 refine wp_seq_k ?_; intro K2 hK2
 refine regl ?_
 refine wpl_sq hF hS (sq rfl (q_buildA1 ty152 ty151 rfl rfl oQ rfl rfl) <|
   sq_end) ?_
 clear hF hS; intro a w hF hS
 refine wpl_ef hF hS rfl (ef_allocA ty152) ?_
 clear hF hS; rintro _ _ _ a w ⟨b2, rfl, rfl, rfl⟩ hF hS
 refine wpl_ef hF hS rfl (ef_storeW ty152 0 rfl rfl rfl rfl bQ oQ bQ) ?_
 clear hF hS; rintro _ _ _ a w ⟨rfl, rfl, rfl⟩ hF hS
 replace hS : St _ [] [_, _] _ := hS
 refine wpList_nil ?_
 refine hK2 _ _ ?_
 clear hK2
 refine wp_seq_k ?_; intro K3 hK3
 refine regl ?_
 refine wpl_sq hF hS (sq rfl (q_move rfl) <|
   sq_end) ?_
 clear hF hS; intro a w hF hS
 refine wpl_ef hF hS rfl (ef_call fn108 rfl (fun w hS => rpad_ct _ _ (by first | assumption | omega) w (Sl.mono (hS.le zin0) hb))) ?_
 clear hF hS; rintro v3 _ _ a w ⟨_, _, rfl, rfl, ⟨z4, hz5, rfl, rfl⟩⟩ hF hS
 replace hS : St _ [_] [_, _] _ := hS
 refine wpl_sq hF hS (sq rfl (q_assign rfl) <|
   sq_end) ?_
 clear hF hS; intro a w hF hS
 refine wpList_nil ?_
 refine hK3 _ _ ?_
 clear hK3
 refine wp_seq_k ?_; intro K4 hK4
 refine wp_seq_k ?_; intro K5 hK5
 refine reg hF hS (sq rfl (q_assign rfl) <|
   sq_end) ?_
 clear hF hS; intro a w hF hS
 refine hK5 _ _ ?_
 clear hK5
 refine wp_block ?_
 obtain ⟨hs0, hhs0, hS⟩ : ∃ h, h = _ ∧ St _ _ h _ := ⟨_, rfl, hS⟩
 refine wp_loopx (γ := Nat) (0) (fun (i : Nat) => [(5, vi (64 * (i : Int)))]) [(2, _), (3, _), (4, _)] (fun (i : Nat) => (hs0.set 0 (.blk b2 152 ((Sha.refS (xs ++ Sha.pad (ofq xs.length)) i).map vw)))) (fun (i : Nat) => i ≤ q) (fun (i : Nat) => q - i) (hF.sub ⟨rfl, rfl, rfl, rfl, trivial⟩) (by subst hhs0; exact hS) (by exact Nat.zero_le _) ?_
 clear hF hS; rintro i a w hfact hF hS
 subst hhs0; (try dsimp only at hfact); (try dsimp only at hF); (try dsimp only at hS)
 have hiq := hfact
 replace hS : St _ [_] [_, _] _ := hS
 have hrl := Sha.refS_len (xs ++ Sha.pad (ofq xs.length)) i
 obtain ⟨a0, a1, a2, a3, a4, a5, a6, a7, hr8⟩ := Sha.list8 hrl
 rw [hr8] at hS
 refine wp_seq_k ?_; intro K6 hK6
 refine wp_seq_k ?_; intro K7 hK7
 refine reg hF hS (sq rfl (q_move rfl) <|
   sq rfl (q_move rfl) <|
   sq rfl (q_len_sl ty39 hz5 rfl) <|
   sq rfl (q_lti rfl rfl) <|
   sq_end) ?_
 clear hF hS; intro a w hF hS
 refine hK7 _ _ ?_
 clear hK7
 refine wp_ifd hF rfl (fun hc1 => ?_) (fun hc1 => ?_)
 ·refine wp_skip ?_
  refine hK6 _ _ ?_
  clear hK6
  refine wp_seq_k ?_; intro K8 hK8
  refine wp_block ?_
  refine wp_seq_k ?_; intro K9 hK9
  refine regl ?_
  refine wpl_sq hF hS (sq rfl (q_move rfl) <|
    sq rfl (q_move rfl) <|
    sq rfl (q_move rfl) <|
    sq rfl (q_addi rfl rfl (by omega)) <|
    sq rfl (q_slsl_lo_hi ty39 ty5 hz5 rfl rfl rfl (by omega)) <|
    sq rfl (q_call fn109 rfl (fun w hS => rwords_ct _ _ (by rw [List.length_drop, List.length_take]; omega) w (Sl.mono (hS.le (.inr (by simp))) (Sl.cut hz5 (by omega)))) (fun _ _ _ h => h)) <|
    sq_end) ?_
  clear hF hS; intro a w hF hS
  refine wpl_ef hF hS rfl (ef_allocA ty162) ?_
  clear hF hS; rintro _ _ _ a w ⟨b6, rfl, rfl, rfl⟩ hF hS
  rw [show List.replicate 64 (Value.int .u32 0) = (List.replicate 64 (0 : UInt32)).map vw from by rw [List.map_replicate] <;> rfl] at hS
  refine wpl_ef hF hS rfl (ef_storeW ty162 0 rfl rfl rfl rfl bQ oQ bQ) ?_
  clear hF hS; rintro _ _ _ a w ⟨rfl, rfl, rfl⟩ hF hS
  replace hS : St _ [_] [_, _, _] _ := hS
  refine wpList_nil ?_
  rw [show (64 * (i : Int)).toNat = 64 * i by omega, show (64 * (i : Int) + 64).toNat = 64 * i + 64 by omega, show List.drop (64 * i) (List.take (64 * i + 64) (xs ++ Sha.pad (ofq xs.length))) = Sha.blkAt (xs ++ Sha.pad (ofq xs.length)) i from rfl] at hS
  have hsl := Sha.sch_len (Sha.blkAt (xs ++ Sha.pad (ofq xs.length)) i) 64
  refine hK9 _ _ ?_
  clear hK9
  refine wp_seq_k ?_; intro K10 hK10
  refine regd mixed kQ hF hS (sq rfl (q_idx_arr ty152 ty151 rfl rfl (by omega)) <|
    sq rfl (q_ld_blk1 ty151 1 rfl rfl rfl rfl) <|
    sq rfl (q_idx_arr ty152 ty151 rfl rfl (by omega)) <|
    sq rfl (q_ld_blk1 ty151 1 rfl rfl rfl rfl) <|
    sq rfl (q_idx_arr ty152 ty151 rfl rfl (by omega)) <|
    sq rfl (q_ld_blk1 ty151 1 rfl rfl rfl rfl) <|
    sq rfl (q_idx_arr ty152 ty151 rfl rfl (by omega)) <|
    sq rfl (q_ld_blk1 ty151 1 rfl rfl rfl rfl) <|
    sq rfl (q_idx_arr ty152 ty151 rfl rfl (by omega)) <|
    sq rfl (q_ld_blk1 ty151 1 rfl rfl rfl rfl) <|
    sq rfl (q_idx_arr ty152 ty151 rfl rfl (by omega)) <|
    sq rfl (q_ld_blk1 ty151 1 rfl rfl rfl rfl) <|
    sq rfl (q_idx_arr ty152 ty151 rfl rfl (by omega)) <|
    sq rfl (q_ld_blk1 ty151 1 rfl rfl rfl rfl) <|
    sq rfl (q_idx_arr ty152 ty151 rfl rfl (by omega)) <|
    sq rfl (q_ld_blk1 ty151 1 rfl rfl rfl rfl) <|
    sq rfl (q_assign rfl) <|
    sq rfl (q_assign rfl) <|
    sq rfl (q_assign rfl) <|
    sq rfl (q_assign rfl) <|
    sq rfl (q_assign rfl) <|
    sq rfl (q_assign rfl) <|
    sq rfl (q_assign rfl) <|
    sq rfl (q_assign rfl) <|
    sq_end) ?_
  clear hF hS; intro a w hF hS
  refine hK10 _ _ ?_
  clear hK10
  refine wp_seq_k ?_; intro K11 hK11
  refine wp_seq_k ?_; intro K12 hK12
  refine reg hF hS (sq rfl (q_assign rfl) <|
    sq_end) ?_
  clear hF hS; intro a w hF hS
  refine hK12 _ _ ?_
  clear hK12
  refine wp_block ?_
  obtain ⟨hs0, hhs0, hS⟩ : ∃ h, h = _ ∧ St _ _ h _ := ⟨_, rfl, hS⟩
  refine wp_loopx (γ := UInt32 × UInt32 × UInt32 × UInt32 × UInt32 × UInt32 × UInt32 × UInt32 × Int) (a0, a1, a2, a3, a4, a5, a6, a7, 0) (fun (gg : UInt32 × UInt32 × UInt32 × UInt32 × UInt32 × UInt32 × UInt32 × UInt32 × Int) => match gg with | (a', b', c', d', e', f', g', k', t) => [(7, vw a'), (8, vw b'), (9, vw c'), (10, vw d'), (11, vw e'), (12, vw f'), (13, vw g'), (14, vw k'), (15, vi t)]) [(2, _), (3, _), (4, _), (5, _), (6, _)] (fun (gg : UInt32 × UInt32 × UInt32 × UInt32 × UInt32 × UInt32 × UInt32 × UInt32 × Int) => match gg with | (a', b', c', d', e', f', g', k', t) => hs0) (fun (gg : UInt32 × UInt32 × UInt32 × UInt32 × UInt32 × UInt32 × UInt32 × UInt32 × Int) => match gg with | (a', b', c', d', e', f', g', k', t) => 0 ≤ t ∧ t ≤ 64 ∧ Sha.rounds (Sha.sch (Sha.blkAt (xs ++ Sha.pad (ofq xs.length)) i) 64) (a0, a1, a2, a3, a4, a5, a6, a7) t.toNat = (a', b', c', d', e', f', g', k')) (fun (gg : UInt32 × UInt32 × UInt32 × UInt32 × UInt32 × UInt32 × UInt32 × UInt32 × Int) => match gg with | (a', b', c', d', e', f', g', k', t) => (64 - t).toNat) (hF.sub ⟨rfl, rfl, rfl, rfl, rfl, rfl, rfl, rfl, rfl, rfl, rfl, rfl, rfl, rfl, trivial⟩) (by subst hhs0; exact hS) (by exact ⟨Int.le_refl _, by omega, rfl⟩) ?_
  clear hF hS; rintro ⟨a', b', c', d', e', f', g', k', t⟩ a w hfact hF hS
  subst hhs0; (try dsimp only at hfact); (try dsimp only at hF); (try dsimp only at hS)
  obtain ⟨ht0, ht1, hR⟩ := hfact
  replace hS : St _ [_] [_, _, _] _ := hS
  refine wp_seq_k ?_; intro K13 hK13
  refine wp_seq_k ?_; intro K14 hK14
  refine reg hF hS (sq rfl (q_move rfl) <|
    sq rfl (q_lti rfl rfl) <|
    sq_end) ?_
  clear hF hS; intro a w hF hS
  refine hK14 _ _ ?_
  clear hK14
  refine wp_ifd hF rfl (fun hc2 => ?_) (fun hc2 => ?_)
  ·refine wp_skip ?_
   refine hK13 _ _ ?_
   clear hK13
   refine wp_seq_k ?_; intro K15 hK15
   refine wp_block ?_
   refine wp_seq_k ?_; intro K16 hK16
   refine regd mixed kQ hF hS (sq rfl (q_move rfl) <|
     sq rfl (q_move rfl) <|
     sq rfl (q_call fn110 rfl (fun w hS => rrotr_ct _ _ (by omega) w ) (fun _ _ _ h => h)) <|
     sq rfl (q_move rfl) <|
     sq rfl (q_call fn110 rfl (fun w hS => rrotr_ct _ _ (by omega) w ) (fun _ _ _ h => h)) <|
     sq rfl (q_xorw rfl rfl) <|
     sq rfl (q_move rfl) <|
     sq rfl (q_call fn110 rfl (fun w hS => rrotr_ct _ _ (by omega) w ) (fun _ _ _ h => h)) <|
     sq rfl (q_xorw rfl rfl) <|
     sq rfl (q_addw rfl rfl) <|
     sq rfl (q_move rfl) <|
     sq rfl (q_move rfl) <|
     sq rfl (q_andw rfl rfl) <|
     sq rfl (q_move rfl) <|
     sq rfl (q_xorw (q := 4294967295) rfl rfl) <|
     sq rfl (q_move rfl) <|
     sq rfl (q_andw rfl rfl) <|
     sq rfl (q_xorw rfl rfl) <|
     sq rfl (q_addw rfl rfl) <|
     sq rfl (q_move rfl) <|
     sq rfl (q_idx_arr0 ty162 ty151 rfl rfl (by omega)) <|
     sq rfl (q_ld_old1M ty151 0 rfl hg0 bQ rfl) <|
     sq rfl (q_addw rfl rfl) <|
     sq rfl (q_move rfl) <|
     sq rfl (q_idx_arr0 ty162 ty151 rfl rfl (by omega)) <|
     sq rfl (q_ld_blkM ty151 0 0 rfl rfl bQ rfl) <|
     sq rfl (q_addw rfl rfl) <|
     sq rfl (q_assign rfl) <|
     sq_end) ?_
   clear hF hS; intro a w hF hS
   refine hK16 _ _ ?_
   clear hK16
   refine wp_seq_k ?_; intro K17 hK17
   refine reg hF hS (sq rfl (q_move rfl) <|
     sq rfl (q_call fn110 rfl (fun w hS => rrotr_ct _ _ (by omega) w ) (fun _ _ _ h => h)) <|
     sq rfl (q_move rfl) <|
     sq rfl (q_call fn110 rfl (fun w hS => rrotr_ct _ _ (by omega) w ) (fun _ _ _ h => h)) <|
     sq rfl (q_xorw rfl rfl) <|
     sq rfl (q_move rfl) <|
     sq rfl (q_call fn110 rfl (fun w hS => rrotr_ct _ _ (by omega) w ) (fun _ _ _ h => h)) <|
     sq rfl (q_xorw rfl rfl) <|
     sq rfl (q_move rfl) <|
     sq rfl (q_move rfl) <|
     sq rfl (q_andw rfl rfl) <|
     sq rfl (q_move rfl) <|
     sq rfl (q_move rfl) <|
     sq rfl (q_andw rfl rfl) <|
     sq rfl (q_xorw rfl rfl) <|
     sq rfl (q_move rfl) <|
     sq rfl (q_move rfl) <|
     sq rfl (q_andw rfl rfl) <|
     sq rfl (q_xorw rfl rfl) <|
     sq rfl (q_addw rfl rfl) <|
     sq rfl (q_assign rfl) <|
     sq_end) ?_
   clear hF hS; intro a w hF hS
   refine hK17 _ _ ?_
   clear hK17
   refine wp_seq_k ?_; intro K18 hK18
   refine reg hF hS (sq rfl (q_move rfl) <|
     sq rfl (q_assign rfl) <|
     sq_end) ?_
   clear hF hS; intro a w hF hS
   refine hK18 _ _ ?_
   clear hK18
   refine wp_seq_k ?_; intro K19 hK19
   refine reg hF hS (sq rfl (q_move rfl) <|
     sq rfl (q_assign rfl) <|
     sq_end) ?_
   clear hF hS; intro a w hF hS
   refine hK19 _ _ ?_
   clear hK19
   refine wp_seq_k ?_; intro K20 hK20
   refine reg hF hS (sq rfl (q_move rfl) <|
     sq rfl (q_assign rfl) <|
     sq_end) ?_
   clear hF hS; intro a w hF hS
   refine hK20 _ _ ?_
   clear hK20
   refine wp_seq_k ?_; intro K21 hK21
   refine reg hF hS (sq rfl (q_move rfl) <|
     sq rfl (q_move rfl) <|
     sq rfl (q_addw rfl rfl) <|
     sq rfl (q_assign rfl) <|
     sq_end) ?_
   clear hF hS; intro a w hF hS
   refine hK21 _ _ ?_
   clear hK21
   refine wp_seq_k ?_; intro K22 hK22
   refine reg hF hS (sq rfl (q_move rfl) <|
     sq rfl (q_assign rfl) <|
     sq_end) ?_
   clear hF hS; intro a w hF hS
   refine hK22 _ _ ?_
   clear hK22
   refine wp_seq_k ?_; intro K23 hK23
   refine reg hF hS (sq rfl (q_move rfl) <|
     sq rfl (q_assign rfl) <|
     sq_end) ?_
   clear hF hS; intro a w hF hS
   refine hK23 _ _ ?_
   clear hK23
   refine wp_seq_k ?_; intro K24 hK24
   refine reg hF hS (sq rfl (q_move rfl) <|
     sq rfl (q_assign rfl) <|
     sq_end) ?_
   clear hF hS; intro a w hF hS
   refine hK24 _ _ ?_
   clear hK24
   refine reg hF hS (sq rfl (q_move rfl) <|
     sq rfl (q_move rfl) <|
     sq rfl (q_addw rfl rfl) <|
     sq rfl (q_assign rfl) <|
     sq_end) ?_
   clear hF hS; intro a w hF hS
   refine hK15 _ _ ?_
   clear hK15
   refine reg hF hS (sq rfl (q_move rfl) <|
     sq rfl (q_addi rfl rfl (by omega)) <|
     sq rfl (q_assign rfl) <|
     sq_end) ?_
   clear hF hS; intro a w hF hS
   simp only [Sha.xor_ff] at hF
   refine ⟨(_, _, _, _, _, _, _, _, t + 1), ?_, ?_, hF.sub ⟨rfl, rfl, rfl, rfl, rfl, rfl, rfl, rfl, rfl, rfl, rfl, rfl, rfl, rfl, trivial⟩, ?_⟩
   ·(try dsimp only); omega
   ·refine ⟨by omega, by omega, ?_⟩
    rw [Sha.rounds_succ _ _ t ht0, hR]
    rfl
   ·exact hS
  ·obtain rfl : t = 64 := by omega
   rw [show (64 : Int).toNat = 64 from rfl] at hR
   refine wp_exit ?_
   refine hK11 _ _ ?_
   clear hK11
   refine regl ?_
   refine wpl_sq hF hS (sq rfl (q_idx_arr ty152 ty151 rfl rfl (by omega)) <|
     sq rfl (q_ld_blk1 ty151 1 rfl rfl rfl rfl) <|
     sq rfl (q_move rfl) <|
     sq rfl (q_addw rfl rfl) <|
     sq rfl (q_idx_arr ty152 ty151 rfl rfl (by omega)) <|
     sq rfl (q_ld_blk1 ty151 1 rfl rfl rfl rfl) <|
     sq rfl (q_move rfl) <|
     sq rfl (q_addw rfl rfl) <|
     sq rfl (q_idx_arr ty152 ty151 rfl rfl (by omega)) <|
     sq rfl (q_ld_blk1 ty151 1 rfl rfl rfl rfl) <|
     sq rfl (q_move rfl) <|
     sq rfl (q_addw rfl rfl) <|
     sq rfl (q_idx_arr ty152 ty151 rfl rfl (by omega)) <|
     sq rfl (q_ld_blk1 ty151 1 rfl rfl rfl rfl) <|
     sq rfl (q_move rfl) <|
     sq rfl (q_addw rfl rfl) <|
     sq rfl (q_idx_arr ty152 ty151 rfl rfl (by omega)) <|
     sq rfl (q_ld_blk1 ty151 1 rfl rfl rfl rfl) <|
     sq rfl (q_move rfl) <|
     sq rfl (q_addw rfl rfl) <|
     sq rfl (q_idx_arr ty152 ty151 rfl rfl (by omega)) <|
     sq rfl (q_ld_blk1 ty151 1 rfl rfl rfl rfl) <|
     sq rfl (q_move rfl) <|
     sq rfl (q_addw rfl rfl) <|
     sq rfl (q_idx_arr ty152 ty151 rfl rfl (by omega)) <|
     sq rfl (q_ld_blk1 ty151 1 rfl rfl rfl rfl) <|
     sq rfl (q_move rfl) <|
     sq rfl (q_addw rfl rfl) <|
     sq rfl (q_idx_arr ty152 ty151 rfl rfl (by omega)) <|
     sq rfl (q_ld_blk1 ty151 1 rfl rfl rfl rfl) <|
     sq rfl (q_move rfl) <|
     sq rfl (q_addw rfl rfl) <|
     sq rfl (q_buildA1 ty152 ty151 rfl rfl oQ rfl rfl) <|
     sq_end) ?_
   clear hF hS; intro a w hF hS
   refine wpl_ef hF hS rfl (ef_storeW ty152 1 rfl rfl rfl rfl bQ oQ bQ) ?_
   clear hF hS; rintro _ _ _ a w ⟨rfl, rfl, rfl⟩ hF hS
   replace hS : St _ [_] [_, _, _] _ := hS
   refine wpList_nil ?_
   refine hK8 _ _ ?_
   clear hK8
   refine reg hF hS (sq rfl (q_move rfl) <|
     sq rfl (q_addi rfl rfl (by omega)) <|
     sq rfl (q_assign rfl) <|
     sq_end) ?_
   clear hF hS; intro a w hF hS
   rw [show (64 * (i : Int) + 64) = 64 * ((i + 1 : Nat) : Int) by omega] at hF
   replace hS := hS.keep sQ (sQ.n)
   refine ⟨(i + 1), ?_, ?_, hF.sub ⟨rfl, rfl, rfl, rfl, trivial⟩, ?_⟩
   ·(try dsimp only); omega
   ·(try dsimp only); omega
   ·have e : Sha.refS (xs ++ Sha.pad (ofq xs.length)) (i + 1) = [a0 + a', a1 + b', a2 + c', a3 + d', a4 + e', a5 + f', a6 + g', a7 + k'] := by
     show Sha.comp (Sha.refS (xs ++ Sha.pad (ofq xs.length)) i) (Sha.blkAt (xs ++ Sha.pad (ofq xs.length)) i) = _
     rw [hr8]
     show List.zipWith (· + ·) [a0, a1, a2, a3, a4, a5, a6, a7] (Sha.l8 (Sha.rounds (Sha.sch (Sha.blkAt (xs ++ Sha.pad (ofq xs.length)) i) 64) (a0, a1, a2, a3, a4, a5, a6, a7) 64)) = _
     rw [hR]
     rfl
    rw [e]
    exact hS
 ·obtain rfl : i = q := by omega
  rw [← hr8] at hS
  have hsr := Sha.sum_ref xs (by omega) i hq
  refine wp_exit ?_
  refine hK4 _ _ ?_
  clear hK4
  refine wp_seq_k ?_; intro K25 hK25
  refine regl ?_
  refine wpl_ef hF hS rfl (ef_allocA ty141) ?_
  clear hF hS; rintro _ _ _ a w ⟨b7, rfl, rfl, rfl⟩ hF hS
  rw [show List.replicate 32 (Value.int .u8 0) = (List.replicate 32 (0 : UInt8)).map vb from by rw [List.map_replicate] <;> rfl] at hS
  refine wpList_nil ?_
  refine hK25 _ _ ?_
  clear hK25
  refine wp_seq_k ?_; intro K26 hK26
  refine wp_seq_k ?_; intro K27 hK27
  refine reg hF hS (sq rfl (q_assign rfl) <|
    sq_end) ?_
  clear hF hS; intro a w hF hS
  refine hK27 _ _ ?_
  clear hK27
  refine wp_block ?_
  obtain ⟨hs0, hhs0, hS⟩ : ∃ h, h = _ ∧ St _ _ h _ := ⟨_, rfl, hS⟩
  refine wp_loopx (γ := Int) (0) (fun (j : Int) => [(19, vi j)]) [(2, _), (3, _), (18, _)] (fun (j : Int) => (hs0.set 0 (.blk b7 141 ((Sha.outW (Sha.refS (xs ++ Sha.pad (ofq xs.length)) i) j.toNat).map vb)))) (fun (j : Int) => 0 ≤ j ∧ j ≤ 32) (fun (j : Int) => (32 - j).toNat) (hF.sub ⟨rfl, rfl, rfl, rfl, trivial⟩) (by subst hhs0; exact hS) (by simp) ?_
  clear hF hS; rintro j a w hfact hF hS
  subst hhs0; (try dsimp only at hfact); (try dsimp only at hF); (try dsimp only at hS)
  obtain ⟨hj0, hj1⟩ := hfact
  replace hS : St _ [_] [_, _, _] _ := hS
  have hol := Sha.outW_len (Sha.refS (xs ++ Sha.pad (ofq xs.length)) i) j.toNat
  have hrq := Sha.refS_len (xs ++ Sha.pad (ofq xs.length)) i
  refine wp_seq_k ?_; intro K28 hK28
  refine wp_seq_k ?_; intro K29 hK29
  refine reg hF hS (sq rfl (q_move rfl) <|
    sq rfl (q_lti rfl rfl) <|
    sq_end) ?_
  clear hF hS; intro a w hF hS
  refine hK29 _ _ ?_
  clear hK29
  refine wp_ifd hF rfl (fun hc3 => ?_) (fun hc3 => ?_)
  ·refine wp_skip ?_
   refine hK28 _ _ ?_
   clear hK28
   refine wp_seq_k ?_; intro K30 hK30
   refine wp_block ?_
   refine regl ?_
   refine wpl_sq hF hS (sq rfl (q_move rfl) <|
     sq rfl (q_move rfl) <|
     sq rfl (q_quoi rfl rfl (by omega)) <|
     sq rfl (q_idx_arr0 ty152 ty151 rfl rfl (by omega)) <|
     sq rfl (q_ld_blkM ty151 1 0 rfl rfl bQ rfl) <|
     sq rfl (q_move rfl) <|
     sq rfl (q_remi rfl rfl (by omega)) <|
     sq rfl (q_muli rfl rfl (by omega)) <|
     sq rfl (q_subi rfl rfl (by omega)) <|
     sq rfl (q_shrw rfl rfl (by omega)) <|
     sq rfl (q_cv_wb ty151 ty5 rfl) <|
     sq rfl (q_idx_arr0 ty141 ty5 rfl rfl (by omega)) <|
     sq_end) ?_
   clear hF hS; intro a w hF hS
   refine wpl_ef hF hS rfl (ef_st_blkM ty5 0 rfl rfl rfl bQ rfl) ?_
   clear hF hS; rintro _ _ _ a w ⟨rfl, rfl, rfl⟩ hF hS
   replace hS : St _ [_] [_, _, _] _ := hS
   refine wpList_nil ?_
   refine hK30 _ _ ?_
   clear hK30
   refine reg hF hS (sq rfl (q_move rfl) <|
     sq rfl (q_addi rfl rfl (by omega)) <|
     sq rfl (q_assign rfl) <|
     sq_end) ?_
   clear hF hS; intro a w hF hS
   refine ⟨(j + 1), ?_, ?_, hF.sub ⟨rfl, rfl, rfl, rfl, trivial⟩, ?_⟩
   ·(try dsimp only); omega
   ·(try dsimp only); omega
   ·rw [Sha.byte_w _ j ⟨hj0, by omega⟩, Sha.outW_step _ _ (by omega), show j.toNat + 1 = (j + 1).toNat by omega] at hS
    exact hS
  ·obtain rfl : j = 32 := by omega
   rw [show (32 : Int).toNat = 32 from rfl, Sha.outW_32, ← hsr] at hS
   have hob := Sha.sum_len xs
   refine wp_exit ?_
   refine hK26 _ _ ?_
   clear hK26
   refine wp_seq_k ?_; intro K31 hK31
   refine regl ?_
   refine wpl_sq hF hS (sq rfl (q_ld_blkW ty141 0 rfl rfl bQ rfl) <|
     sq_end) ?_
   clear hF hS; intro a w hF hS
   refine wpl_ef hF hS rfl (ef_storeW ty141 2 rfl rfl rfl rfl bQ oQ bQ) ?_
   clear hF hS; rintro _ _ _ a w ⟨rfl, rfl, rfl⟩ hF hS
   replace hS : St _ [_] [_, _, _] _ := hS
   refine wpList_nil ?_
   refine hK31 _ _ ?_
   clear hK31
   refine wp_ret ?_
   exact fn_ret (rs := [.cell 2 141]) rfl hF hS (vs := [_]) ⟨⟨_, _, _, _, _, _, _, rfl, List.mem_of_getElem? (i := 2) rfl, ty141, .inl ⟨rfl, bQ, rfl⟩⟩, trivial⟩ zQ zQ (rfl)
end Go.Proofs.YtdojfnigffeblaaDoor
