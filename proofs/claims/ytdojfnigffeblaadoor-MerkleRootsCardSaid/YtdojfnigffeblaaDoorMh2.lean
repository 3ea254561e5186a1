/- A text of a proof over this seat: walks over the program's functions and the plain laws that they need. -/
import Derived.Test.YtdojfnigffeblaaDoorMh1
import Derived.Test.YtdojfnigffeblaaDoorFwB
set_option linter.all false
namespace Go.Proofs.YtdojfnigffeblaaDoor
open Go.Fw
theorem ty9 : Tf Tryd.prog 9 .string 1 16 (Value.string ⟨(List.nil : List UInt8).toArray⟩) := ⟨Tryd.underlying9, by kernel_rfl⟩
theorem ty116 : Tf Tryd.prog 116 (.int .u64) 1 8 (Value.int .u64 0) := ⟨Tryd.underlying116, by kernel_rfl⟩
theorem ty153 : Tf Tryd.prog 153 (.array 64 5) 64 64 (.agg (List.replicate 64 (Value.int .u8 0)).toArray) := ⟨Tryd.underlying153, by kernel_rfl⟩
theorem ty155 : Tf Tryd.prog 155 (.struct #[⟨ "state", 152, 0, false, "", "culprit/hash", 0⟩, ⟨ "block", 153, 8, false, "", "culprit/hash", 32⟩, ⟨ "n", 116, 72, false, "", "culprit/hash", 96⟩]) 73 104 (.agg (List.replicate 8 (Value.int .u32 0) ++ List.replicate 64 (Value.int .u8 0) ++ [Value.int .u64 0]).toArray) := ⟨Tryd.underlying155, by kernel_rfl⟩
theorem fn113 : FnOk Tryd.prog 113 := ⟨_, Tryd.func113, rfl, by kernel_rfl⟩

/-- A stream's cells. -/
@[reducible] def stmC (s : Sha.Stm) : List Value := s.st.map vw ++ (s.bl.map vb ++ [vq s.n])

set_option maxRecDepth 4000 in
set_option maxHeartbeats 2000000 in
theorem begin_ct (w : World) : Ct Tryd.prog 103 [] w (fun r _ _ => r = .agg (stmC Sha.begin_).toArray) := by
 refine fn_enter Tryd.func103 rfl Tryd.ntmps103 (Nat.le_of_ble_eq_true rfl) fun a hF hS => ?_
 refine wp_seq_k ?_; intro K1 hK1
 refine regl ?_
 refine wpl_ef hF hS rfl (ef_allocA ty155) ?_
 clear hF hS; rintro _ _ _ a w ⟨b1, rfl, rfl, rfl⟩ hF hS
 refine wpList_nil ?_
 refine hK1 _ _ ?_
 clear hK1
 refine wp_seq_k ?_; intro K2 hK2
 refine regl ?_
 refine wpl_sq hF hS (sq rfl (q_buildA1 ty152 ty151 rfl rfl oQ rfl rfl) <|
   sq rfl (q_build rfl (run_build_struct ty155 (places := [(0, 8), (8, 64), (72, 1)]) kQ (cells := stmC Sha.begin_) kQ)) <|
   sq_end) ?_
 clear hF hS; intro a w hF hS
 refine wpl_ef hF hS rfl (ef_storeW ty155 0 rfl rfl rfl rfl bQ oQ bQ) ?_
 clear hF hS; rintro _ _ _ a w ⟨rfl, rfl, rfl⟩ hF hS
 (try dsimp only [segs] at hS)
 replace hS : St _ [] [_] _ := hS
 refine wpList_nil ?_
 refine hK2 _ _ ?_
 clear hK2
 refine wp_ret ?_
 exact fn_ret (rs := [.cell 0 155]) rfl hF hS (vs := [_]) ⟨⟨_, _, _, _, _, _, _, rfl, List.mem_of_getElem? (i := 0) rfl, ty155, .inl ⟨rfl, bQ, rfl⟩⟩, trivial⟩ zQ zQ (rfl)

set_option maxRecDepth 4000 in
set_option maxHeartbeats 2000000 in
theorem add_ct (s : Sha.Stm) (t : List UInt8) (h8 : s.st.length = 8) (h64 : s.bl.length = 64) (ht : t.length < 1099511627776) (w : World) {fz1 : Nat × Nat} {bt1 : TypeId} (hg1 : w.heap[2]? = some (.cells (Sha.kc.map vw).toArray bt1 fz1)) : Ct Tryd.prog 104 [.agg (stmC s).toArray, vs t] w (fun r _ _ => r = .agg (stmC (Sha.adds s t)).toArray) := by
 refine fn_enter Tryd.func104 rfl Tryd.ntmps104 (Nat.le_of_ble_eq_true rfl) fun a hF hS => ?_
 refine wp_seq_k ?_; intro K1 hK1
 refine regl ?_
 refine wpl_ef hF hS rfl (ef_boxA rfl) ?_
 clear hF hS; rintro _ _ _ a w ⟨b1, rfl, rfl, rfl⟩ hF hS
 refine wpl_ef hF hS rfl (ef_allocA ty155) ?_
 clear hF hS; rintro _ _ _ a w ⟨b2, rfl, rfl, rfl⟩ hF hS
 refine wpList_nil ?_
 refine hK1 _ _ ?_
 clear hK1
 refine wp_seq_k ?_; intro K2 hK2
 refine wp_block ?_
 obtain ⟨hs0, hhs0, hS⟩ : ∃ h, h = _ ∧ St _ _ h _ := ⟨_, rfl, hS⟩
 refine wp_loopx (γ := Sha.Stm × List UInt8) (s, t) (fun (gg : Sha.Stm × List UInt8) => match gg with | (s', t') => [(1, vs t')]) [(2, _), (4, _)] (fun (gg : Sha.Stm × List UInt8) => match gg with | (s', t') => (hs0.set 1 (.blk b1 155 (s'.st.map vw ++ (s'.bl.map vb ++ [vq s'.n]))))) (fun (gg : Sha.Stm × List UInt8) => match gg with | (s', t') => s'.st.length = 8 ∧ s'.bl.length = 64 ∧ t'.length < 1099511627776 ∧ Sha.adds s' t' = Sha.adds s t) (fun (gg : Sha.Stm × List UInt8) => match gg with | (s', t') => t'.length) (hF.sub ⟨rfl, rfl, rfl, trivial⟩) (by subst hhs0; exact hS) (by exact ⟨h8, h64, ht, rfl⟩) ?_
 clear hF hS; rintro ⟨s', t'⟩ a w hfact hF hS
 subst hhs0; (try dsimp only at hfact); (try dsimp only at hF); (try dsimp only at hS)
 obtain ⟨h8, h64, ht, hadd⟩ := hfact
 replace hS : St _ [] [_, _] _ := hS
 refine wp_seq_k ?_; intro K3 hK3
 refine wp_seq_k ?_; intro K4 hK4
 refine reg hF hS (sq rfl (q_move rfl) <|
   sq rfl (q_nes (q := []) rfl rfl) <|
   sq_end) ?_
 clear hF hS; intro a w hF hS
 refine hK4 _ _ ?_
 clear hK4
 refine wp_ifn hF rfl (fun hc1 => ?_) (fun hc1 => ?_)
 ·have htpos : 0 < t'.length := by
   cases t' with
   | nil => exact absurd rfl hc1
   | cons c t => simp
  refine wp_skip ?_
  refine hK3 _ _ ?_
  clear hK3
  refine wp_block ?_
  refine wp_seq_k ?_; intro K5 hK5
  refine reg hF hS (sq rfl (q_fieldAddr ty155 rfl rfl (s' := 0) kQ) <|
    sq rfl (q_ld_seg1 ty116 1 [_, _] rfl rfl bQ rfl) <|
    sq rfl (q_remq (q := 64) rfl rfl (by decide)) <|
    sq rfl (q_cv_qi ty116 ty3 rfl) <|
    sq rfl (q_assign rfl) <|
    sq_end) ?_
  clear hF hS; intro a w hF hS
  rw [Sha.at_sgn s'.n] at hF
  generalize hat : s'.n.toNat % 64 = q at hF
  have hq : q < 64 := by omega
  refine hK5 _ _ ?_
  clear hK5
  refine wp_seq_k ?_; intro K6 hK6
  refine regl ?_
  refine wpl_sq hF hS (sq rfl (q_fieldAddr ty155 rfl rfl (s' := 63) kQ) <|
    sq rfl (q_move rfl) <|
    sq rfl (q_sla_lo ty153 ty5 rfl rfl (by omega)) <|
    sq rfl (q_move rfl) <|
    sq_end) ?_
  clear hF hS; intro a w hF hS
  refine wpl_ef hF hS rfl (ef_copy_segM ty39 ty5 1 [_] rfl rfl rfl bQ bQ) ?_
  clear hF hS; rintro _ _ _ a w ⟨rfl, rfl, rfl⟩ hF hS
  (try dsimp only [segs] at hS)
  replace hS : St _ [] [_, _] _ := hS
  refine wpl_sq hF hS (sq rfl (q_assign rfl) <|
    sq_end) ?_
  clear hF hS; intro a w hF hS
  refine wpList_nil ?_
  simp only [Int.toNat_natCast] at hS hF
  obtain ⟨k, hk⟩ : ∃ k, k = min t'.length (64 - q) := ⟨_, rfl⟩
  rw [← hk] at hS
  rw [show min (t'.length : Int) ((64 - q : Nat) : Int) = (k : Int) by omega] at hF
  have hbl : (List.take q s'.bl ++ (List.take k t' ++ List.drop (q + k) s'.bl)).length = 64 := by simp; omega
  generalize hB : List.take q s'.bl ++ (List.take k t' ++ List.drop (q + k) s'.bl) = B at hS hbl
  refine hK6 _ _ ?_
  clear hK6
  refine wp_seq_k ?_; intro K7 hK7
  refine reg hF hS (sq rfl (q_move rfl) <|
    sq rfl (q_move rfl) <|
    sq rfl (q_sl_s_lo ty9 rfl rfl (by omega)) <|
    sq rfl (q_assign rfl) <|
    sq_end) ?_
  clear hF hS; intro a w hF hS
  simp only [Int.toNat_natCast] at hF
  refine hK7 _ _ ?_
  clear hK7
  refine wp_seq_k ?_; intro K8 hK8
  refine regl ?_
  refine wpl_sq hF hS (sq rfl (q_fieldAddr ty155 rfl rfl (s' := 0) kQ) <|
    sq rfl (q_ld_seg1 ty116 1 [_, _] rfl rfl bQ rfl) <|
    sq rfl (q_move rfl) <|
    sq rfl (q_cv_iq ty3 ty116 rfl) <|
    sq rfl (q_addq rfl rfl) <|
    sq rfl (q_fieldAddr ty155 rfl rfl (s' := 0) kQ) <|
    sq_end) ?_
  clear hF hS; intro a w hF hS
  refine wpl_ef hF hS rfl (ef_st_seg1 ty116 1 [_, _] rfl rfl rfl bQ rfl) ?_
  clear hF hS; rintro _ _ _ a w ⟨rfl, rfl, rfl⟩ hF hS
  (try dsimp only [segs] at hS)
  replace hS : St _ [] [_, _] _ := hS
  refine wpList_nil ?_
  refine hK8 _ _ ?_
  clear hK8
  refine wp_seq_k ?_; intro K9 hK9
  refine reg hF hS (sq rfl (q_move rfl) <|
    sq rfl (q_move rfl) <|
    sq rfl (q_addi rfl rfl (by omega)) <|
    sq rfl (q_eqi rfl rfl) <|
    sq_end) ?_
  clear hF hS; intro a w hF hS
  refine hK9 _ _ ?_
  clear hK9
  refine wp_ifd hF rfl (fun hc2 => ?_) (fun hc2 => ?_)
  ·have hcl := Sha.comp_len s'.st B h8
   refine regt 6 mixed kQ hF hS (sq rfl (q_fieldAddr ty155 rfl rfl (s' := 7) kQ) <|
     sq rfl (q_ld_seg ty152 1 [] rfl rfl bQ bQ rfl) <|
     sq rfl (q_fieldAddr ty155 rfl rfl (s' := 63) kQ) <|
     sq rfl (q_sla ty153 ty5 rfl) <|
     sq rfl (q_call fn113 rfl (fun w hS => compress_ct _ _ _ (by first | assumption | rfl | (simp; done) | (simp; omega)) (by first | assumption | omega | (simp; omega)) w (blk_segV hS 1 [_] rfl bQ (by omega) (by simp)) (hS.ext _ _ hg1)) (fun _ _ _ h => h)) <|
     sq rfl (q_fieldAddr ty155 rfl rfl (s' := 7) kQ) <|
     sq_end) ?_
   clear hF hS; intro a w hF hS
   refine wpl_ef hF hS rfl (ef_st_seg ty152 1 [] rfl rfl rfl bQ bQ bQ (fun _ => rfl)) ?_
   clear hF hS; rintro _ _ _ a w ⟨rfl, rfl, rfl⟩ hF hS
   (try dsimp only [segs] at hS)
   replace hS : St _ [] [_, _] _ := hS
   refine wpList_nil ?_
   refine ⟨(⟨Sha.comp s'.st B, B, s'.n + ofq (k : Int)⟩, t'.drop k), ?_, ?_, hF.sub ⟨rfl, rfl, rfl, trivial⟩, ?_⟩
   ·dsimp only; rw [List.length_drop]; omega
   ·exact ⟨Sha.comp_len _ _ h8, hbl, by rw [List.length_drop]; omega, by rw [← hadd, Sha.adds_chunk s' t' q k hat h64 (by omega) (by omega), if_pos (by omega), hB]⟩
   ·exact hS
  ·refine wp_skip ?_
   refine ⟨(⟨s'.st, B, s'.n + ofq (k : Int)⟩, t'.drop k), ?_, ?_, hF.sub ⟨rfl, rfl, rfl, trivial⟩, ?_⟩
   ·dsimp only; rw [List.length_drop]; omega
   ·exact ⟨h8, hbl, by rw [List.length_drop]; omega, by rw [← hadd, Sha.adds_chunk s' t' q k hat h64 (by omega) (by omega), if_neg (by omega), hB]⟩
   ·exact hS
 ·obtain rfl := hc1
  refine wp_exit ?_
  refine hK2 _ _ ?_
  clear hK2
  refine wp_seq_k ?_; intro K10 hK10
  refine regl ?_
  refine wpl_sq hF hS (sq rfl (q_ld_blkW ty155 1 rfl rfl bQ rfl) <|
    sq_end) ?_
  clear hF hS; intro a w hF hS
  refine wpl_ef hF hS rfl (ef_storeW ty155 0 rfl rfl rfl rfl bQ oQ bQ) ?_
  clear hF hS; rintro _ _ _ a w ⟨rfl, rfl, rfl⟩ hF hS
  (try dsimp only [segs] at hS)
  replace hS : St _ [] [_, _] _ := hS
  refine wpList_nil ?_
  refine hK10 _ _ ?_
  clear hK10
  refine wp_ret ?_
  exact fn_ret (rs := [.cell 4 155]) rfl hF hS (vs := [_]) ⟨⟨_, _, _, _, _, _, _, rfl, List.mem_of_getElem? (i := 0) rfl, ty155, .inl ⟨rfl, bQ, rfl⟩⟩, trivial⟩ zQ zQ (by rw [← hadd]; rfl)
end Go.Proofs.YtdojfnigffeblaaDoor
