/- A text of a proof over this seat: walks over the program's functions and the plain laws that they need. -/
import Derived.Test.YtdojfnigffeblaaDoorMh2
import Derived.Test.YtdojfnigffeblaaDoorFwB
set_option linter.all false
namespace Go.Proofs.YtdojfnigffeblaaDoor
open Go.Fw
theorem ty141 : Tf Tryd.prog 141 (.array 32 5) 32 32 (.agg (List.replicate 32 (Value.int .u8 0)).toArray) := ⟨Tryd.underlying141, by kernel_rfl⟩
theorem fn104 : FnOk Tryd.prog 104 := ⟨_, Tryd.func104, rfl, by kernel_rfl⟩

set_option maxRecDepth 4000 in
set_option maxHeartbeats 2000000 in
theorem ssum_ct (s : Sha.Stm) (h8 : s.st.length = 8) (h64 : s.bl.length = 64) (hn : s.n.toNat < 2199023255552) (w : World) {fz1 : Nat × Nat} {bt1 : TypeId} (hg1 : w.heap[2]? = some (.cells (Sha.kc.map vw).toArray bt1 fz1)) : Ct Tryd.prog 105 [.agg (stmC s).toArray] w (fun r _ _ => r = .agg ((Sha.fin s).map vb).toArray) := by
 refine fn_enter Tryd.func105 rfl Tryd.ntmps105 (Nat.le_of_ble_eq_true rfl) fun a hF hS => ?_
 have hsg : sgn s.n = (s.n.toNat : Int) := by unfold sgn; rw [if_pos (by omega)]
 have hz := Sha.zeros_lt s.n.toNat
 have hbe := Sha.be8_len (8 * s.n)
 refine wp_seq_k ?_; intro K1 hK1
 refine regl ?_
 refine wpl_ef hF hS rfl (ef_boxA rfl) ?_
 clear hF hS; rintro _ _ _ a w ⟨b1, rfl, rfl, rfl⟩ hF hS
 refine wpl_ef hF hS rfl (ef_allocA ty141) ?_
 clear hF hS; rintro _ _ _ a w ⟨b2, rfl, rfl, rfl⟩ hF hS
 rw [show List.replicate 32 (Value.int .u8 0) = (List.replicate 32 (0 : UInt8)).map vb from by rw [List.map_replicate] <;> rfl] at hS
 refine wpList_nil ?_
 refine hK1 _ _ ?_
 clear hK1
 refine wp_seq_k ?_; intro K2 hK2
 refine reg hF hS (sq rfl (q_fieldAddr ty155 rfl rfl (s' := 0) kQ) <|
   sq rfl (q_ld_seg1 ty116 1 [_, _] rfl rfl bQ rfl) <|
   sq rfl (q_mulq (p := 8) rfl rfl) <|
   sq rfl (q_assign rfl) <|
   sq_end) ?_
 clear hF hS; intro a w hF hS
 refine hK2 _ _ ?_
 clear hK2
 refine wp_seq_k ?_; intro K3 hK3
 refine regl ?_
 refine wpl_ef hF hS rfl (ef_bsliceA ty39 ty5 rfl rfl oQ (by decide) rfl rfl) ?_
 clear hF hS; rintro v3 _ _ a w ⟨rfl, rfl⟩ hF hS
 replace hS : St _ [] [_, _, _] _ := hS
 refine wpl_sq hF hS (sq rfl (q_assign rfl) <|
   sq_end) ?_
 clear hF hS; intro a w hF hS
 refine wpList_nil ?_
 refine hK3 _ _ ?_
 clear hK3
 refine wp_seq_k ?_; intro K4 hK4
 refine wp_block ?_
 obtain ⟨hs0, hhs0, hS⟩ : ∃ h, h = _ ∧ St _ _ h _ := ⟨_, rfl, hS⟩
 refine wp_loopx (γ := Value × Nat) (v3, 0) (fun (gg : Value × Nat) => match gg with | (v, j) => [(4, v)]) [(1, _), (2, _), (3, _)] (fun (gg : Value × Nat) => match gg with | (v, j) => (hs0.set 0 (.row v 5 1 (1 + j) ((128 :: List.replicate j (0 : UInt8)).map vb)))) (fun (gg : Value × Nat) => match gg with | (v, j) => j ≤ Sha.zerosFor s.n.toNat) (fun (gg : Value × Nat) => match gg with | (v, j) => Sha.zerosFor s.n.toNat - j) (hF.sub ⟨rfl, rfl, rfl, rfl, trivial⟩) (by subst hhs0; exact hS) (by exact Nat.zero_le _) ?_
 clear hF hS; rintro ⟨v, j⟩ a w hfact hF hS
 subst hhs0; (try dsimp only at hfact); (try dsimp only at hF); (try dsimp only at hS)
 have hj := hfact
 replace hS : St _ [] [_, _, _] _ := hS
 refine wp_seq_k ?_; intro K5 hK5
 refine wp_seq_k ?_; intro K6 hK6
 refine reg hF hS (sq rfl (q_fieldAddr ty155 rfl rfl (s' := 0) kQ) <|
   sq rfl (q_ld_seg1 ty116 2 [_, _] rfl rfl bQ rfl) <|
   sq rfl (q_cv_qi ty116 ty3 rfl) <|
   sq rfl (q_move rfl) <|
   sq rfl (q_len_row ty39 0 rfl rfl) <|
   sq rfl (q_addi rfl rfl (by omega)) <|
   sq rfl (q_remi rfl rfl (by omega)) <|
   sq rfl (q_nei rfl rfl) <|
   sq_end) ?_
 clear hF hS; intro a w hF hS
 refine hK6 _ _ ?_
 clear hK6
 refine wp_ifn hF rfl (fun hc1 => ?_) (fun hc1 => ?_)
 ·have hjl : j < Sha.zerosFor s.n.toNat := by
   have := Sha.zeros_at s.n.toNat
   rcases Nat.lt_or_ge j (Sha.zerosFor s.n.toNat) with h | h
   ·exact h
   ·obtain rfl : j = Sha.zerosFor s.n.toNat := by omega
    omega
  refine wp_skip ?_
  refine hK5 _ _ ?_
  clear hK5
  refine wp_block ?_
  refine regl ?_
  refine wpl_sq hF hS (sq rfl (q_move rfl) <|
    sq_end) ?_
  clear hF hS; intro a w hF hS
  refine wpl_ef hF hS rfl (ef_bsliceA ty39 ty5 rfl rfl oQ (by decide) rfl rfl) ?_
  clear hF hS; rintro v5 _ _ a w ⟨rfl, rfl⟩ hF hS
  replace hS : St _ [] [_, _, _, _] _ := hS
  refine wpl_ef hF hS rfl (ef_append ty39 ty5 1 rfl rfl rfl (src_row ty39 (k := 0) rfl oQ) bQ rfl (by decide)) ?_
  clear hF hS; rintro v7 _ _ a w ⟨rfl, rfl⟩ hF hS
  replace hS : St _ [] [_, _, _, _] _ := hS
  refine wpl_sq hF hS (sq rfl (q_assign rfl) <|
    sq_end) ?_
  clear hF hS; intro a w hF hS
  refine wpList_nil ?_
  replace hS := hS.keep zQ (sQ.n)
  refine ⟨(v7, j + 1), ?_, ?_, hF.sub ⟨rfl, rfl, rfl, rfl, trivial⟩, ?_⟩
  ·(try dsimp only); omega
  ·(try dsimp only); omega
  ·have e : (128 :: List.replicate j (0 : UInt8)).map vb ++ [Value.int .u8 0] = (128 :: List.replicate (j + 1) (0 : UInt8)).map vb := by rw [List.replicate_succ']; simp
   rw [e] at hS
   exact hS
 ·have hjz := Sha.zeros_un s.n.toNat j hj (by omega)
  subst hjz
  refine wp_exit ?_
  refine hK4 _ _ ?_
  clear hK4
  refine wp_seq_k ?_; intro K7 hK7
  refine wp_seq_k ?_; intro K8 hK8
  refine reg hF hS (sq rfl (q_move rfl) <|
    sq_end) ?_
  clear hF hS; intro a w hF hS
  refine hK8 _ _ ?_
  clear hK8
  refine wp_block ?_
  obtain ⟨hs0, hhs0, hS⟩ : ∃ h, h = _ ∧ St _ _ h _ := ⟨_, rfl, hS⟩
  refine wp_loopx (γ := Value × Int) (v, 0) (fun (gg : Value × Int) => match gg with | (v, i) => [(4, v), (23, vi i)]) [(1, _), (2, _), (3, _)] (fun (gg : Value × Int) => match gg with | (v, i) => (hs0.set 0 (.row v 5 1 (1 + Sha.zerosFor s.n.toNat + i.toNat) ((128 :: (List.replicate (Sha.zerosFor s.n.toNat) (0 : UInt8) ++ (Sha.be8 (8 * s.n)).take i.toNat)).map vb)))) (fun (gg : Value × Int) => match gg with | (v, i) => 0 ≤ i ∧ i ≤ 8) (fun (gg : Value × Int) => match gg with | (v, i) => (8 - i).toNat) (hF.sub ⟨rfl, rfl, rfl, rfl, rfl, trivial⟩) (by subst hhs0; simpa using hS) (by simp) ?_
  clear hF hS; rintro ⟨v, i⟩ a w hfact hF hS
  subst hhs0; (try dsimp only at hfact); (try dsimp only at hF); (try dsimp only at hS)
  obtain ⟨hi0, hi1⟩ := hfact
  replace hS : St _ [] [_, _, _] _ := hS
  refine wp_seq_k ?_; intro K9 hK9
  refine reg hF hS (sq rfl (q_lti rfl rfl) <|
    sq_end) ?_
  clear hF hS; intro a w hF hS
  refine hK9 _ _ ?_
  clear hK9
  refine wp_seq_k ?_; intro K10 hK10
  refine wp_ifd hF rfl (fun hc2 => ?_) (fun hc2 => ?_)
  ·refine wp_skip ?_
   refine hK10 _ _ ?_
   clear hK10
   refine wp_seq_k ?_; intro K11 hK11
   refine wp_block ?_
   refine wp_seq_k ?_; intro K12 hK12
   refine reg hF hS (sq rfl (q_move rfl) <|
     sq rfl (q_assign rfl) <|
     sq_end) ?_
   clear hF hS; intro a w hF hS
   refine hK12 _ _ ?_
   clear hK12
   refine regl ?_
   refine wpl_sq hF hS (sq rfl (q_move rfl) <|
     sq rfl (q_move rfl) <|
     sq rfl (q_move rfl) <|
     sq rfl (q_muli rfl rfl (by omega)) <|
     sq rfl (q_subi rfl rfl (by omega)) <|
     sq rfl (q_shrq rfl rfl (by omega)) <|
     sq rfl (q_cv_qb ty116 ty5 rfl) <|
     sq_end) ?_
   clear hF hS; intro a w hF hS
   refine wpl_ef hF hS rfl (ef_bsliceA ty39 ty5 rfl rfl oQ (by decide) rfl rfl) ?_
   clear hF hS; rintro v8 _ _ a w ⟨rfl, rfl⟩ hF hS
   replace hS : St _ [] [_, _, _, _] _ := hS
   refine wpl_ef hF hS rfl (ef_append ty39 ty5 1 rfl rfl rfl (src_row ty39 (k := 0) rfl oQ) bQ rfl (by decide)) ?_
   clear hF hS; rintro v10 _ _ a w ⟨rfl, rfl⟩ hF hS
   replace hS : St _ [] [_, _, _, _] _ := hS
   refine wpl_sq hF hS (sq rfl (q_assign rfl) <|
     sq_end) ?_
   clear hF hS; intro a w hF hS
   refine wpList_nil ?_
   refine hK11 _ _ ?_
   clear hK11
   refine reg hF hS (sq rfl (q_addi rfl rfl (by omega)) <|
     sq rfl (q_move rfl) <|
     sq_end) ?_
   clear hF hS; intro a w hF hS
   replace hS := hS.keep zQ (sQ.n)
   refine ⟨(v10, i + 1), ?_, ?_, hF.sub ⟨rfl, rfl, rfl, rfl, rfl, trivial⟩, ?_⟩
   ·(try dsimp only); omega
   ·(try dsimp only); omega
   ·rw [Sha.byte_q (8 * s.n) i ⟨hi0, by omega⟩] at hS
    have e : (128 :: (List.replicate (Sha.zerosFor s.n.toNat) (0 : UInt8) ++ (Sha.be8 (8 * s.n)).take i.toNat)).map vb ++ [vb (UInt8.ofNat ((8 * s.n).toNat / 2 ^ (56 - 8 * i.toNat)))] = (128 :: (List.replicate (Sha.zerosFor s.n.toNat) (0 : UInt8) ++ (Sha.be8 (8 * s.n)).take (i + 1).toNat)).map vb := by rw [show (i + 1).toNat = i.toNat + 1 by omega, Sha.be8_step _ _ (by omega)]; simp
    rw [e, show 1 + Sha.zerosFor s.n.toNat + i.toNat + 1 = 1 + Sha.zerosFor s.n.toNat + (i + 1).toNat by omega] at hS
    exact hS
  ·obtain rfl : i = 8 := by omega
   rw [show (8 : Int).toNat = 8 from rfl, List.take_of_length_le (by omega)] at hS
   have hpl := Sha.pad_len s.n
   have hal := Sha.adds_len s h8 h64 (Sha.pad s.n)
   change St _ [] [.row _ 5 1 _ ((Sha.pad s.n).map vb), _, _] _ at hS
   refine wp_exit ?_
   refine hK7 _ _ ?_
   clear hK7
   refine wp_seq_k ?_; intro K13 hK13
   refine regl ?_
   refine wpl_sq hF hS (sq rfl (q_ld_blkW ty155 2 rfl rfl bQ rfl) <|
     sq rfl (q_move rfl) <|
     sq rfl (q_b2s_row ty39 ty9 ty5 0 rfl rfl) <|
     sq rfl (q_call fn104 rfl (fun w hS => add_ct _ _ (by first | assumption | rfl | (simp only [*]; done)) (by first | assumption | rfl | (simp only [*]; done)) (by first | assumption | omega | (simp; done) | (simp; omega) | (simp only [*]; omega)) w (hS.ext _ _ hg1)) (fun _ _ _ h => h)) <|
     sq_end) ?_
   clear hF hS; intro a w hF hS
   refine wpl_ef hF hS rfl (ef_storeW ty155 2 rfl rfl rfl rfl bQ oQ bQ) ?_
   clear hF hS; rintro _ _ _ a w ⟨rfl, rfl, rfl⟩ hF hS
   (try dsimp only [segs] at hS)
   replace hS : St _ [] [_, _, _] _ := hS
   refine wpList_nil ?_
   refine hK13 _ _ ?_
   clear hK13
   refine wp_seq_k ?_; intro K14 hK14
   refine regl ?_
   refine wpl_ef hF hS rfl (ef_allocA ty141) ?_
   clear hF hS; rintro _ _ _ a w ⟨b11, rfl, rfl, rfl⟩ hF hS
   rw [show List.replicate 32 (Value.int .u8 0) = (List.replicate 32 (0 : UInt8)).map vb from by rw [List.map_replicate] <;> rfl] at hS
   refine wpList_nil ?_
   refine hK14 _ _ ?_
   clear hK14
   refine wp_seq_k ?_; intro K15 hK15
   refine wp_seq_k ?_; intro K16 hK16
   refine reg hF hS (sq rfl (q_move rfl) <|
     sq_end) ?_
   clear hF hS; intro a w hF hS
   refine hK16 _ _ ?_
   clear hK16
   refine wp_block ?_
   obtain ⟨hs0, hhs0, hS⟩ : ∃ h, h = _ ∧ St _ _ h _ := ⟨_, rfl, hS⟩
   refine wp_loopx (γ := Int) (0) (fun (i : Int) => [(40, vi i)]) [(1, _), (2, _), (6, _)] (fun (i : Int) => (hs0.set 0 (.blk b11 141 ((Sha.outW (Sha.adds s (Sha.pad s.n)).st i.toNat).map vb)))) (fun (i : Int) => 0 ≤ i ∧ i ≤ 32) (fun (i : Int) => (32 - i).toNat) (hF.sub ⟨rfl, rfl, rfl, rfl, trivial⟩) (by subst hhs0; exact hS) (by simp) ?_
   clear hF hS; rintro i a w hfact hF hS
   subst hhs0; (try dsimp only at hfact); (try dsimp only at hF); (try dsimp only at hS)
   obtain ⟨hi0, hi1⟩ := hfact
   replace hS : St _ [] [_, _, _, _] _ := hS
   have hol := Sha.outW_len (Sha.adds s (Sha.pad s.n)).st i.toNat
   refine wp_seq_k ?_; intro K17 hK17
   refine reg hF hS (sq rfl (q_lti rfl rfl) <|
     sq_end) ?_
   clear hF hS; intro a w hF hS
   refine hK17 _ _ ?_
   clear hK17
   refine wp_seq_k ?_; intro K18 hK18
   refine wp_ifd hF rfl (fun hc3 => ?_) (fun hc3 => ?_)
   ·refine wp_skip ?_
    refine hK18 _ _ ?_
    clear hK18
    refine wp_seq_k ?_; intro K19 hK19
    refine wp_block ?_
    refine wp_seq_k ?_; intro K20 hK20
    refine reg hF hS (sq rfl (q_move rfl) <|
      sq rfl (q_assign rfl) <|
      sq_end) ?_
    clear hF hS; intro a w hF hS
    refine hK20 _ _ ?_
    clear hK20
    refine regl ?_
    refine wpl_sq hF hS (sq rfl (q_move rfl) <|
      sq rfl (q_move rfl) <|
      sq rfl (q_quoi rfl rfl (by omega)) <|
      sq rfl (q_fieldAddr ty155 rfl rfl (s' := 7) kQ) <|
      sq rfl (q_idx_arr ty152 ty151 rfl rfl (by omega)) <|
      sq rfl (q_ld_segM ty151 3 [] (0 : UInt32) rfl rfl bQ bQ rfl) <|
      sq rfl (q_move rfl) <|
      sq rfl (q_remi rfl rfl (by omega)) <|
      sq rfl (q_muli rfl rfl (by omega)) <|
      sq rfl (q_subi rfl rfl (by omega)) <|
      sq rfl (q_shrw rfl rfl (by omega)) <|
      sq rfl (q_cv_wb ty151 ty5 rfl) <|
      sq rfl (q_idx_arr0 ty141 ty5 rfl rfl (by omega)) <|
      sq_end) ?_
    clear hF hS; intro a w hF hS
    refine wpl_ef hF hS rfl (ef_st_blkM ty5 0 rfl rfl rfl bQ rfl) ?_
    clear hF hS; rintro _ _ _ a w ⟨rfl, rfl, rfl⟩ hF hS
    replace hS : St _ [] [_, _, _, _] _ := hS
    refine wpList_nil ?_
    refine hK19 _ _ ?_
    clear hK19
    refine reg hF hS (sq rfl (q_addi rfl rfl (by omega)) <|
      sq rfl (q_move rfl) <|
      sq_end) ?_
    clear hF hS; intro a w hF hS
    refine ⟨(i + 1), ?_, ?_, hF.sub ⟨rfl, rfl, rfl, rfl, trivial⟩, ?_⟩
    ·(try dsimp only); omega
    ·(try dsimp only); omega
    ·rw [Sha.byte_w _ i ⟨hi0, by omega⟩, Sha.outW_step _ _ (by omega), show i.toNat + 1 = (i + 1).toNat by omega] at hS
     exact hS
   ·obtain rfl : i = 32 := by omega
    rw [show (32 : Int).toNat = 32 from rfl, Sha.outW_32] at hS
    have hob := Sha.outB_len (Sha.adds s (Sha.pad s.n)).st
    refine wp_exit ?_
    refine hK15 _ _ ?_
    clear hK15
    refine wp_seq_k ?_; intro K21 hK21
    refine regl ?_
    refine wpl_sq hF hS (sq rfl (q_ld_blkW ty141 0 rfl rfl bQ rfl) <|
      sq_end) ?_
    clear hF hS; intro a w hF hS
    refine wpl_ef hF hS rfl (ef_storeW ty141 2 rfl rfl rfl rfl bQ oQ bQ) ?_
    clear hF hS; rintro _ _ _ a w ⟨rfl, rfl, rfl⟩ hF hS
    replace hS : St _ [] [_, _, _, _] _ := hS
    refine wpList_nil ?_
    refine hK21 _ _ ?_
    clear hK21
    refine wp_ret ?_
    exact fn_ret (rs := [.cell 2 141]) rfl hF hS (vs := [_]) ⟨⟨_, _, _, _, _, _, _, rfl, List.mem_of_getElem? (i := 2) rfl, ty141, .inl ⟨rfl, bQ, rfl⟩⟩, trivial⟩ zQ zQ (rfl)
end Go.Proofs.YtdojfnigffeblaaDoor
