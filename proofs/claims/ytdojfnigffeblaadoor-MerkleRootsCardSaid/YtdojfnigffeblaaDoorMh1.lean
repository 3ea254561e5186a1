/- A text of a proof over this seat: walks over the program's functions and the plain laws that they need. -/
import Derived.Test.YtdojfnigffeblaaDoorFwB
import Derived.Test.YtdojfnigffeblaaDoorShW
import Derived.Test.YtdojfnigffeblaaDoorChecked
set_option linter.all false
namespace Go.Proofs.YtdojfnigffeblaaDoor
open Go.Fw
theorem mixed : Tryd.prog.follows .mixedOrders = true := by kernel_rfl
theorem ty3 : Tf Tryd.prog 3 (.int .i64) 1 8 (Value.int .i64 0) := ⟨Tryd.underlying3, by kernel_rfl⟩
theorem ty5 : Tf Tryd.prog 5 (.int .u8) 1 1 (Value.int .u8 0) := ⟨Tryd.underlying5, by kernel_rfl⟩
theorem ty39 : Tf Tryd.prog 39 (.slice 5) 1 24 (Value.slice none 0 0) := ⟨Tryd.underlying39, by kernel_rfl⟩
theorem ty151 : Tf Tryd.prog 151 (.int .u32) 1 4 (Value.int .u32 0) := ⟨Tryd.underlying151, by kernel_rfl⟩
theorem ty152 : Tf Tryd.prog 152 (.array 8 151) 8 32 (.agg (List.replicate 8 (Value.int .u32 0)).toArray) := ⟨Tryd.underlying152, by kernel_rfl⟩
theorem ty160 : Tf Tryd.prog 160 (.int .u64) 1 8 (Value.int .u64 0) := ⟨Tryd.underlying160, by kernel_rfl⟩
theorem ty162 : Tf Tryd.prog 162 (.array 64 151) 64 256 (.agg (List.replicate 64 (Value.int .u32 0)).toArray) := ⟨Tryd.underlying162, by kernel_rfl⟩
theorem ty166 : Tf Tryd.prog 166 (.array 4 151) 4 16 (.agg ([Value.int .u32 0, Value.int .u32 0, Value.int .u32 0, Value.int .u32 0]).toArray) := ⟨Tryd.underlying166, by kernel_rfl⟩
theorem fn115 : FnOk Tryd.prog 115 := ⟨_, Tryd.func115, rfl, by kernel_rfl⟩
theorem fn116 : FnOk Tryd.prog 116 := ⟨_, Tryd.func116, rfl, by kernel_rfl⟩
theorem fn117 : FnOk Tryd.prog 117 := ⟨_, Tryd.func117, rfl, by kernel_rfl⟩

set_option maxRecDepth 4000 in
set_option maxHeartbeats 2000000 in
theorem rot_ct (x : UInt32) (k : Int) (w : World) : Ct Tryd.prog 117 [vw x, vi k] w (fun v _ _ => v = vw (Sha.rotl x k)) := by
 refine fn_enter Tryd.func117 rfl Tryd.ntmps117 (Nat.le_of_ble_eq_true rfl) fun a hF hS => ?_
 have hk := (ofq k &&& 31)
 refine wp_seq_k ?_; intro K1 hK1
 refine reg hF hS (sq rfl (q_assign rfl) <|
   sq_end) ?_
 clear hF hS; intro a w hF hS
 refine hK1 _ _ ?_
 clear hK1
 refine wp_seq_k ?_; intro K2 hK2
 refine reg hF hS (sq rfl (q_move rfl) <|
   sq rfl (q_cv_iq ty3 ty160 rfl) <|
   sq rfl (q_andq (q := 31) rfl rfl) <|
   sq rfl (q_assign rfl) <|
   sq_end) ?_
 clear hF hS; intro a w hF hS
 refine hK2 _ _ ?_
 clear hK2
 refine wp_seq_k ?_; intro K3 hK3
 refine reg hF hS (sq rfl (q_move rfl) <|
   sq rfl (q_move rfl) <|
   sq rfl (q_shlw rfl rfl (by omega)) <|
   sq rfl (q_move rfl) <|
   sq rfl (q_move rfl) <|
   sq rfl (q_subq (p := 32) rfl rfl) <|
   sq rfl (q_shrw rfl rfl (by omega)) <|
   sq rfl (q_orw rfl rfl) <|
   sq rfl (q_assign rfl) <|
   sq_end) ?_
 clear hF hS; intro a w hF hS
 refine hK3 _ _ ?_
 clear hK3
 refine wp_ret ?_
 exact fn_ret (rs := [.tmp 4]) rfl hF hS (vs := [_]) ⟨rfl, trivial⟩ zQ zQ (rfl)

set_option maxRecDepth 4000 in
set_option maxHeartbeats 2000000 in
theorem mix_ct (x : UInt32) (i j k : Int) (hi : 0 < i ∧ i < 32) (hj : 0 < j ∧ j < 32) (hk : 0 < k ∧ k < 32) (w : World) : Ct Tryd.prog 116 [vw x, vi i, vi j, vi k] w (fun v _ _ => v = vw (Sha.rotr x (UInt32.ofNat i.toNat) ^^^ Sha.rotr x (UInt32.ofNat j.toNat) ^^^ Sha.rotr x (UInt32.ofNat k.toNat))) := by
 refine fn_enter Tryd.func116 rfl Tryd.ntmps116 (Nat.le_of_ble_eq_true rfl) fun a hF hS => ?_
 refine wp_seq_k ?_; intro K1 hK1
 refine reg hF hS (sq rfl (q_assign rfl) <|
   sq_end) ?_
 clear hF hS; intro a w hF hS
 refine hK1 _ _ ?_
 clear hK1
 refine wp_seq_k ?_; intro K2 hK2
 refine reg hF hS (sq rfl (q_move rfl) <|
   sq rfl (q_move rfl) <|
   sq rfl (q_negi rfl (by omega)) <|
   sq rfl (q_call fn117 rfl (fun w hS => rot_ct _ _ w ) (fun _ _ _ h => h)) <|
   sq rfl (q_move rfl) <|
   sq rfl (q_move rfl) <|
   sq rfl (q_negi rfl (by omega)) <|
   sq rfl (q_call fn117 rfl (fun w hS => rot_ct _ _ w ) (fun _ _ _ h => h)) <|
   sq rfl (q_xorw rfl rfl) <|
   sq rfl (q_move rfl) <|
   sq rfl (q_move rfl) <|
   sq rfl (q_negi rfl (by omega)) <|
   sq rfl (q_call fn117 rfl (fun w hS => rot_ct _ _ w ) (fun _ _ _ h => h)) <|
   sq rfl (q_xorw rfl rfl) <|
   sq rfl (q_assign rfl) <|
   sq_end) ?_
 clear hF hS; intro a w hF hS
 refine hK2 _ _ ?_
 clear hK2
 refine wp_ret ?_
 exact fn_ret (rs := [.tmp 8]) rfl hF hS (vs := [_]) ⟨rfl, trivial⟩ zQ zQ (by rw [Sha.mix_rotr x i j k hi hj hk])

set_option maxRecDepth 4000 in
set_option maxHeartbeats 2000000 in
theorem sched_ct (v : Value) (bb : List UInt8) (hl : bb.length = 64) (w : World) (hb : Sl encB (ph w) v bb) : Ct Tryd.prog 115 [v] w (fun r _ _ => r = .agg ((Sha.sch bb 64).map vw).toArray) := by
 refine fn_enter Tryd.func115 rfl Tryd.ntmps115 (Nat.le_of_ble_eq_true rfl) fun a hF hS => ?_
 have hb := hb
 refine wp_seq_k ?_; intro K1 hK1
 refine regl ?_
 refine wpl_ef hF hS rfl (ef_allocA ty162) ?_
 clear hF hS; rintro _ _ _ a w ⟨b1, rfl, rfl, rfl⟩ hF hS
 rw [show List.replicate 64 (Value.int .u32 0) = (List.replicate 64 (0 : UInt32)).map vw from by rw [List.map_replicate] <;> rfl] at hS
 refine wpList_nil ?_
 refine hK1 _ _ ?_
 clear hK1
 refine wp_seq_k ?_; intro K2 hK2
 refine regl ?_
 refine wpl_ef hF hS rfl (ef_allocA ty162) ?_
 clear hF hS; rintro _ _ _ a w ⟨b2, rfl, rfl, rfl⟩ hF hS
 rw [show List.replicate 64 (Value.int .u32 0) = (List.replicate 64 (0 : UInt32)).map vw from by rw [List.map_replicate] <;> rfl] at hS
 refine wpList_nil ?_
 refine hK2 _ _ ?_
 clear hK2
 refine wp_seq_k ?_; intro K3 hK3
 refine wp_seq_k ?_; intro K4 hK4
 refine reg hF hS (sq rfl (q_move rfl) <|
   sq_end) ?_
 clear hF hS; intro a w hF hS
 refine hK4 _ _ ?_
 clear hK4
 refine wp_block ?_
 obtain ⟨hs0, hhs0, hS⟩ : ∃ h, h = _ ∧ St _ _ h _ := ⟨_, rfl, hS⟩
 refine wp_loopx (γ := Int) (0) (fun (t : Int) => [(11, vi t)]) [(0, _), (2, _), (3, _)] (fun (t : Int) => (hs0.set 0 (.blk b2 162 ((Sha.schW bb t.toNat).map vw)))) (fun (t : Int) => 0 ≤ t ∧ t ≤ 64) (fun (t : Int) => (64 - t).toNat) (hF.sub ⟨rfl, rfl, rfl, rfl, trivial⟩) (by subst hhs0; exact hS) (by simp) ?_
 clear hF hS; rintro t a w hfact hF hS
 subst hhs0; (try dsimp only at hfact); (try dsimp only at hF); (try dsimp only at hS)
 obtain ⟨ht0, ht1⟩ := hfact
 replace hS : St _ [] [_, _] _ := hS
 have hwl := Sha.schW_len bb t.toNat (by omega)
 refine wp_seq_k ?_; intro K5 hK5
 refine reg hF hS (sq rfl (q_lti rfl rfl) <|
   sq_end) ?_
 clear hF hS; intro a w hF hS
 refine hK5 _ _ ?_
 clear hK5
 refine wp_seq_k ?_; intro K6 hK6
 refine wp_ifd hF rfl (fun hc1 => ?_) (fun hc1 => ?_)
 ·refine wp_skip ?_
  refine hK6 _ _ ?_
  clear hK6
  refine wp_seq_k ?_; intro K7 hK7
  refine wp_block ?_
  refine wp_seq_k ?_; intro K8 hK8
  refine reg hF hS (sq rfl (q_move rfl) <|
    sq rfl (q_assign rfl) <|
    sq_end) ?_
  clear hF hS; intro a w hF hS
  refine hK8 _ _ ?_
  clear hK8
  refine wp_seq_k ?_; intro K9 hK9
  refine wp_seq_k ?_; intro K10 hK10
  refine reg hF hS (sq rfl (q_move rfl) <|
    sq rfl (q_lti rfl rfl) <|
    sq_end) ?_
  clear hF hS; intro a w hF hS
  refine hK10 _ _ ?_
  clear hK10
  refine wp_ifd hF rfl (fun hc2 => ?_) (fun hc2 => ?_)
  ·refine wp_seq_k ?_; intro K11 hK11
   refine wp_seq_k ?_; intro K12 hK12
   refine reg hF hS (sq rfl (q_move rfl) <|
     sq rfl (q_move rfl) <|
     sq rfl (q_muli rfl rfl (by omega)) <|
     sq rfl (q_move rfl) <|
     sq rfl (q_muli rfl rfl (by omega)) <|
     sq rfl (q_addi rfl rfl (by omega)) <|
     sq rfl (q_slsl_lo_hi ty39 ty5 hb rfl rfl rfl (by omega)) <|
     sq rfl (q_len_sl ty39 (Sl.cut hb (by omega)) rfl) <|
     sq rfl (q_move rfl) <|
     sq_end) ?_
   clear hF hS; intro a w hF hS
   have hlen : (((bb.take (4 * t + 4).toNat).drop (4 * t).toNat).length : Int) = 4 := by simp; omega
   refine hK12 _ _ ?_
   clear hK12
   refine wp_block ?_
   obtain ⟨hs0, hhs0, hS⟩ : ∃ h, h = _ ∧ St _ _ h _ := ⟨_, rfl, hS⟩
   refine wp_loopx (γ := Int) (0) (fun (j : Int) => [(24, vi j)]) [(0, _), (2, _), (3, _), (4, _), (11, _), (22, _), (23, _)] (fun (j : Int) => (hs0.set 0 (.blk b2 162 ((Sha.schA bb t.toNat j.toNat).map vw)))) (fun (j : Int) => 0 ≤ j ∧ j ≤ 4) (fun (j : Int) => (4 - j).toNat) (hF.sub ⟨rfl, rfl, rfl, rfl, rfl, rfl, rfl, rfl, trivial⟩) (by subst hhs0; rw [Sha.schW_A bb t.toNat (by omega)] at hS; exact hS) (by simp) ?_
   clear hF hS; rintro j a w hfact hF hS
   subst hhs0; (try dsimp only at hfact); (try dsimp only at hF); (try dsimp only at hS)
   obtain ⟨hj0, hj1⟩ := hfact
   replace hS : St _ [] [_, _] _ := hS
   have hal := Sha.schA_len bb t.toNat j.toNat (by omega)
   refine wp_seq_k ?_; intro K13 hK13
   refine reg hF hS (sq rfl (q_lti rfl rfl) <|
     sq_end) ?_
   clear hF hS; intro a w hF hS
   refine hK13 _ _ ?_
   clear hK13
   refine wp_seq_k ?_; intro K14 hK14
   refine wp_ifd hF rfl (fun hc3 => ?_) (fun hc3 => ?_)
   ·refine wp_skip ?_
    refine hK14 _ _ ?_
    clear hK14
    refine wp_seq_k ?_; intro K15 hK15
    refine wp_block ?_
    refine wp_seq_k ?_; intro K16 hK16
    refine reg hF hS (sq rfl (q_idx_sl ty39 ty5 (Sl.cut hb (by omega)) rfl rfl (by omega)) <|
      sq rfl (q_ld_B ty5 (Sl.cut hb (by omega)) zin0 rfl rfl (by omega)) <|
      sq rfl (q_assign rfl) <|
      sq_end) ?_
    clear hF hS; intro a w hF hS
    refine hK16 _ _ ?_
    clear hK16
    refine regl ?_
    refine wpl_sq hF hS (sq rfl (q_move rfl) <|
      sq rfl (q_move rfl) <|
      sq rfl (q_idx_arr0 ty162 ty151 rfl rfl (by omega)) <|
      sq rfl (q_ld_blkM ty151 0 0 rfl rfl bQ rfl) <|
      sq rfl (q_shlw rfl rfl (by omega)) <|
      sq rfl (q_move rfl) <|
      sq rfl (q_cv_bw ty5 ty151 rfl) <|
      sq rfl (q_orw rfl rfl) <|
      sq rfl (q_idx_arr0 ty162 ty151 rfl rfl (by omega)) <|
      sq_end) ?_
    clear hF hS; intro a w hF hS
    refine wpl_ef hF hS rfl (ef_st_blkM ty151 0 rfl rfl rfl bQ rfl) ?_
    clear hF hS; rintro _ _ _ a w ⟨rfl, rfl, rfl⟩ hF hS
    replace hS : St _ [] [_, _] _ := hS
    refine wpList_nil ?_
    refine hK15 _ _ ?_
    clear hK15
    refine reg hF hS (sq rfl (q_addi rfl rfl (by omega)) <|
      sq rfl (q_move rfl) <|
      sq_end) ?_
    clear hF hS; intro a w hF hS
    rw [Sha.acc_step bb t j (by omega) (by omega) (by omega) (by omega) hl] at hS
    refine ⟨(j + 1), ?_, ?_, hF.sub ⟨rfl, rfl, rfl, rfl, rfl, rfl, rfl, rfl, trivial⟩, ?_⟩
    ·(try dsimp only); omega
    ·(try dsimp only); omega
    ·exact hS
   ·refine wp_exit ?_
    refine hK11 _ _ ?_
    clear hK11
    refine wp_exit ?_
    refine hK7 _ _ ?_
    clear hK7
    refine reg hF hS (sq rfl (q_addi rfl rfl (by omega)) <|
      sq rfl (q_move rfl) <|
      sq_end) ?_
    clear hF hS; intro a w hF hS
    have hj : j = 4 := by omega
    subst hj
    rw [show (4 : Int).toNat = 4 from rfl, Sha.schA_end bb t.toNat (by omega), show t.toNat + 1 = (t + 1).toNat by omega] at hS
    refine ⟨(t + 1), ?_, ?_, hF.sub ⟨rfl, rfl, rfl, rfl, trivial⟩, ?_⟩
    ·(try dsimp only); omega
    ·(try dsimp only); omega
    ·exact hS
  ·refine wp_skip ?_
   refine hK9 _ _ ?_
   clear hK9
   refine wp_seq_k ?_; intro K17 hK17
   refine regd mixed kQ hF hS (sq rfl (q_move rfl) <|
     sq rfl (q_subi rfl rfl (by omega)) <|
     sq rfl (q_idx_arr0 ty162 ty151 rfl rfl (by omega)) <|
     sq rfl (q_ld_blkM ty151 0 0 rfl rfl bQ rfl) <|
     sq rfl (q_move rfl) <|
     sq rfl (q_subi rfl rfl (by omega)) <|
     sq rfl (q_idx_arr0 ty162 ty151 rfl rfl (by omega)) <|
     sq rfl (q_ld_blkM ty151 0 0 rfl rfl bQ rfl) <|
     sq rfl (q_assign rfl) <|
     sq rfl (q_assign rfl) <|
     sq_end) ?_
   clear hF hS; intro a w hF hS
   refine hK17 _ _ ?_
   clear hK17
   refine wp_seq_k ?_; intro K18 hK18
   refine reg hF hS (sq rfl (q_move rfl) <|
     sq rfl (q_call fn117 rfl (fun w hS => rot_ct _ _ w ) (fun _ _ _ h => h)) <|
     sq rfl (q_move rfl) <|
     sq rfl (q_call fn117 rfl (fun w hS => rot_ct _ _ w ) (fun _ _ _ h => h)) <|
     sq rfl (q_xorw rfl rfl) <|
     sq rfl (q_move rfl) <|
     sq rfl (q_shrw rfl rfl (by omega)) <|
     sq rfl (q_xorw rfl rfl) <|
     sq rfl (q_assign rfl) <|
     sq_end) ?_
   clear hF hS; intro a w hF hS
   refine hK18 _ _ ?_
   clear hK18
   refine wp_seq_k ?_; intro K19 hK19
   refine reg hF hS (sq rfl (q_move rfl) <|
     sq rfl (q_call fn117 rfl (fun w hS => rot_ct _ _ w ) (fun _ _ _ h => h)) <|
     sq rfl (q_move rfl) <|
     sq rfl (q_call fn117 rfl (fun w hS => rot_ct _ _ w ) (fun _ _ _ h => h)) <|
     sq rfl (q_xorw rfl rfl) <|
     sq rfl (q_move rfl) <|
     sq rfl (q_shrw rfl rfl (by omega)) <|
     sq rfl (q_xorw rfl rfl) <|
     sq rfl (q_assign rfl) <|
     sq_end) ?_
   clear hF hS; intro a w hF hS
   refine hK19 _ _ ?_
   clear hK19
   refine regt 15 mixed kQ hF hS (sq rfl (q_move rfl) <|
     sq rfl (q_move rfl) <|
     sq rfl (q_subi rfl rfl (by omega)) <|
     sq rfl (q_idx_arr0 ty162 ty151 rfl rfl (by omega)) <|
     sq rfl (q_ld_blkM ty151 0 0 rfl rfl bQ rfl) <|
     sq rfl (q_move rfl) <|
     sq rfl (q_addw rfl rfl) <|
     sq rfl (q_move rfl) <|
     sq rfl (q_subi rfl rfl (by omega)) <|
     sq rfl (q_idx_arr0 ty162 ty151 rfl rfl (by omega)) <|
     sq rfl (q_ld_blkM ty151 0 0 rfl rfl bQ rfl) <|
     sq rfl (q_addw rfl rfl) <|
     sq rfl (q_move rfl) <|
     sq rfl (q_addw rfl rfl) <|
     sq rfl (q_idx_arr0 ty162 ty151 rfl rfl (by omega)) <|
     sq_end) ?_
   clear hF hS; intro a w hF hS
   refine wpl_ef hF hS rfl (ef_st_blkM ty151 0 rfl rfl rfl bQ rfl) ?_
   clear hF hS; rintro _ _ _ a w ⟨rfl, rfl, rfl⟩ hF hS
   replace hS : St _ [] [_, _] _ := hS
   refine wpList_nil ?_
   refine hK7 _ _ ?_
   clear hK7
   refine reg hF hS (sq rfl (q_addi rfl rfl (by omega)) <|
     sq rfl (q_move rfl) <|
     sq_end) ?_
   clear hF hS; intro a w hF hS
   rw [Sha.sch_step bb t (by omega) (by omega)] at hS
   refine ⟨(t + 1), ?_, ?_, hF.sub ⟨rfl, rfl, rfl, rfl, trivial⟩, ?_⟩
   ·(try dsimp only); omega
   ·(try dsimp only); omega
   ·exact hS
 ·obtain rfl : t = 64 := by omega
  rw [show (64 : Int).toNat = 64 from rfl] at hwl
  rw [show (64 : Int).toNat = 64 from rfl, Sha.schW_64] at hS
  have hsl := Sha.sch_len bb 64
  refine wp_exit ?_
  refine hK3 _ _ ?_
  clear hK3
  refine wp_seq_k ?_; intro K20 hK20
  refine regl ?_
  refine wpl_sq hF hS (sq rfl (q_ld_blkW ty162 0 rfl rfl bQ rfl) <|
    sq_end) ?_
  clear hF hS; intro a w hF hS
  refine wpl_ef hF hS rfl (ef_storeW ty162 1 rfl rfl rfl rfl bQ oQ bQ) ?_
  clear hF hS; rintro _ _ _ a w ⟨rfl, rfl, rfl⟩ hF hS
  replace hS : St _ [] [_, _] _ := hS
  refine wpList_nil ?_
  refine hK20 _ _ ?_
  clear hK20
  refine wp_ret ?_
  exact fn_ret (rs := [.cell 2 162]) rfl hF hS (vs := [_]) ⟨⟨_, _, _, _, _, _, _, rfl, List.mem_of_getElem? (i := 1) rfl, ty162, .inl ⟨rfl, bQ, rfl⟩⟩, trivial⟩ zQ zQ (rfl)

set_option maxRecDepth 4000 in
set_option maxHeartbeats 2000000 in
theorem compress_ct (v : Value) (ss : List UInt32) (bb : List UInt8) (hs8 : ss.length = 8) (hl : bb.length = 64) (w : World) (hb : Sl encB (ph w) v bb) {fz1 : Nat × Nat} {bt1 : TypeId} (hg1 : w.heap[2]? = some (.cells (Sha.kc.map vw).toArray bt1 fz1)) : Ct Tryd.prog 113 [.agg (ss.map vw).toArray, v] w (fun r _ _ => r = .agg ((Sha.comp ss bb).map vw).toArray) := by
 refine fn_enter Tryd.func113 rfl Tryd.ntmps113 (Nat.le_of_ble_eq_true rfl) fun a hF hS => ?_
 obtain ⟨a0, a1, a2, a3, a4, a5, a6, a7, rfl⟩ := Sha.list8 hs8
 have hsl := Sha.sch_len bb 64
 have hkl : Sha.kc.length = 64 := rfl
 refine wp_seq_k ?_; intro K1 hK1
 refine regl ?_
 refine wpl_ef hF hS rfl (ef_boxA rfl) ?_
 clear hF hS; rintro _ _ _ a w ⟨b1, rfl, rfl, rfl⟩ hF hS
 refine wpl_ef hF hS rfl (ef_allocA ty152) ?_
 clear hF hS; rintro _ _ _ a w ⟨b2, rfl, rfl, rfl⟩ hF hS
 refine wpList_nil ?_
 refine hK1 _ _ ?_
 clear hK1
 refine wp_seq_k ?_; intro K2 hK2
 refine regl ?_
 refine wpl_sq hF hS (sq rfl (q_move rfl) <|
   sq rfl (q_call fn115 rfl (fun w hS => sched_ct _ _ hl w (Sl.mono (hS.le zin0) hb)) (fun _ _ _ h => h)) <|
   sq_end) ?_
 clear hF hS; intro a w hF hS
 refine wpl_ef hF hS rfl (ef_allocA ty162) ?_
 clear hF hS; rintro _ _ _ a w ⟨b3, rfl, rfl, rfl⟩ hF hS
 rw [show List.replicate 64 (Value.int .u32 0) = (List.replicate 64 (0 : UInt32)).map vw from by rw [List.map_replicate] <;> rfl] at hS
 refine wpl_ef hF hS rfl (ef_storeW ty162 0 rfl rfl rfl rfl bQ oQ bQ) ?_
 clear hF hS; rintro _ _ _ a w ⟨rfl, rfl, rfl⟩ hF hS
 replace hS : St _ [] [_, _, _] _ := hS
 refine wpList_nil ?_
 refine hK2 _ _ ?_
 clear hK2
 refine wp_seq_k ?_; intro K3 hK3
 revert hS; revert hF; apply regJ (J := J2 (α0 := Nat) (α1 := Nat) 116 _ _ _ _ _) #[false, false, false, false, false, false, false, false, false, false] 10 mixed rfl rfl
 ·intro w hF hS
  refine goW_take 0 _ rfl kQ rfl hF (hS.keep sQ (sQ.n.n)) (q_sla_hi ty152 ty151 rfl rfl (by omega)) ?_
  clear hF; intro a hF
  refine goW_take 1 _ rfl kQ rfl hF (hS.keep sQ zQ) (q_s2ap ty166 rfl (by omega)) ?_
  clear hF; intro a hF
  refine goW_take 2 _ rfl kQ rfl hF (hS.keep sQ (sQ.n.n)) (q_ld_blkA ty166 0 rfl rfl rfl (by simp) rfl) ?_
  clear hF; intro a hF
  refine goW_take 3 _ rfl kQ rfl hF (hS.keep sQ (sQ.n.n)) (q_sla_lo ty152 ty151 rfl rfl (by omega)) ?_
  clear hF; intro a hF
  refine goW_take 4 _ rfl kQ rfl hF (hS.keep sQ zQ) (q_s2ap ty166 rfl (by omega)) ?_
  clear hF; intro a hF
  refine goW_take 5 _ rfl kQ rfl hF (hS.keep sQ (sQ.n.n)) (q_ld_blkA ty166 0 rfl rfl rfl (by simp) rfl) ?_
  clear hF; intro a hF
  refine goW_fork [6, 7] kQ rfl ⟨?_, ?_, trivial⟩
  ·refine stepW_ef _ rfl rfl hF hS rfl (ef_allocA ty166) ?_
   clear hF hS; rintro _ _ _ a w ⟨b_2_6, rfl, rfl, rfl⟩ hF hS
   refine ⟨⟨.inr (hS.k1 (sQ.n.n.n)), .inr hS.k0, .inr (hS.k1 (sQ.n.n.n)), .inr (hS.k1 (sQ.n.n.n)), .inr hS.k0, .inr (hS.k1 (sQ.n.n.n)), trivial⟩, ?_⟩
   refine gQ 7 rfl rfl hF hS rfl (ef_allocA ty166) ?_
   clear hF hS; rintro _ _ _ a w ⟨b_2_7, rfl, rfl, rfl⟩ hF hS
   refine ⟨⟨.inr (hS.k1 (sQ.n.n.n.n)), .inr hS.k0, .inr (hS.k1 (sQ.n.n.n.n)), .inr (hS.k1 (sQ.n.n.n.n)), .inr hS.k0, .inr (hS.k1 (sQ.n.n.n.n)), trivial⟩, ?_⟩
   refine gQ 8 rfl rfl hF hS rfl (ef_storeW ty166 1 rfl rfl rfl rfl bQ oQ bQ) ?_
   clear hF hS; rintro _ _ _ a w ⟨rfl, rfl, rfl⟩ hF hS
   refine ⟨⟨.inr (hS.k1 (sQ.n.n.n.n)), .inr hS.k0, .inr (hS.k1 (sQ.n.n.n.n)), iQ, iQ, iQ, trivial⟩, ?_⟩
   refine gQ 9 rfl rfl hF hS rfl (ef_storeW ty166 0 rfl rfl rfl rfl bQ oQ bQ) ?_
   clear hF hS; rintro _ _ _ a w ⟨rfl, rfl, rfl⟩ hF hS
   refine ⟨⟨iQ, iQ, iQ, iQ, iQ, iQ, trivial⟩, ?_⟩
   exact goW_done kQ (j2_mk b_2_6 b_2_7 (trivial) (hF.sub (L' := [(2, _), (4, _), (5, _), (6, _), (7, _)]) ⟨rfl, rfl, rfl, rfl, rfl, trivial⟩) hS)
  ·refine stepW_ef _ rfl rfl hF hS rfl (ef_allocA ty166) ?_
   clear hF hS; rintro _ _ _ a w ⟨b_2_7, rfl, rfl, rfl⟩ hF hS
   refine ⟨⟨.inr (hS.k1 (sQ.n.n.n)), .inr hS.k0, .inr (hS.k1 (sQ.n.n.n)), .inr (hS.k1 (sQ.n.n.n)), .inr hS.k0, .inr (hS.k1 (sQ.n.n.n)), trivial⟩, ?_⟩
   refine gQ 6 rfl rfl hF hS rfl (ef_allocA ty166) ?_
   clear hF hS; rintro _ _ _ a w ⟨b_2_6, rfl, rfl, rfl⟩ hF hS
   refine ⟨⟨.inr (hS.k1 (sQ.n.n.n.n)), .inr hS.k0, .inr (hS.k1 (sQ.n.n.n.n)), .inr (hS.k1 (sQ.n.n.n.n)), .inr hS.k0, .inr (hS.k1 (sQ.n.n.n.n)), trivial⟩, ?_⟩
   refine gQ 8 rfl rfl hF hS rfl (ef_storeW ty166 0 rfl rfl rfl rfl bQ oQ bQ) ?_
   clear hF hS; rintro _ _ _ a w ⟨rfl, rfl, rfl⟩ hF hS
   refine ⟨⟨.inr (hS.k1 (sQ.n.n.n.n)), .inr hS.k0, .inr (hS.k1 (sQ.n.n.n.n)), iQ, iQ, iQ, trivial⟩, ?_⟩
   refine gQ 9 rfl rfl hF hS rfl (ef_storeW ty166 1 rfl rfl rfl rfl bQ oQ bQ) ?_
   clear hF hS; rintro _ _ _ a w ⟨rfl, rfl, rfl⟩ hF hS
   refine ⟨⟨iQ, iQ, iQ, iQ, iQ, iQ, trivial⟩, ?_⟩
   exact goW_done kQ (j2_mk b_2_6 b_2_7 (trivial) (hF.sub (L' := [(2, _), (4, _), (5, _), (6, _), (7, _)]) ⟨rfl, rfl, rfl, rfl, rfl, trivial⟩) (hS.perm (.swap _ _ _)))
 rintro a w ⟨b_2_6, b_2_7, -, hF, hS⟩
 (try dsimp only at hF); (try dsimp only at hS)
 refine hK3 _ _ ?_
 clear hK3
 refine wp_seq_k ?_; intro K4 hK4
 refine wp_seq_k ?_; intro K5 hK5
 refine reg hF hS (sq rfl (q_ld_oldW ty162 rfl hg1 bQ rfl) <|
   sq rfl (q_move rfl) <|
   sq_end) ?_
 clear hF hS; intro a w hF hS
 refine hK5 _ _ ?_
 clear hK5
 refine wp_block ?_
 obtain ⟨hs0, hhs0, hS⟩ : ∃ h, h = _ ∧ St _ _ h _ := ⟨_, rfl, hS⟩
 refine wp_loopx (γ := Int) (0) (fun (i : Int) => [(22, vi i)]) [(2, _), (4, _), (5, _), (6, _), (7, _), (21, _)] (fun (i : Int) => ((hs0.set 1 (.blk b_2_6 166 [vw (Sha.rounds (Sha.sch bb 64) (a0, a1, a2, a3, a4, a5, a6, a7) i.toNat).1, vw (Sha.rounds (Sha.sch bb 64) (a0, a1, a2, a3, a4, a5, a6, a7) i.toNat).2.1, vw (Sha.rounds (Sha.sch bb 64) (a0, a1, a2, a3, a4, a5, a6, a7) i.toNat).2.2.1, vw (Sha.rounds (Sha.sch bb 64) (a0, a1, a2, a3, a4, a5, a6, a7) i.toNat).2.2.2.1])).set 0 (.blk b_2_7 166 [vw (Sha.rounds (Sha.sch bb 64) (a0, a1, a2, a3, a4, a5, a6, a7) i.toNat).2.2.2.2.1, vw (Sha.rounds (Sha.sch bb 64) (a0, a1, a2, a3, a4, a5, a6, a7) i.toNat).2.2.2.2.2.1, vw (Sha.rounds (Sha.sch bb 64) (a0, a1, a2, a3, a4, a5, a6, a7) i.toNat).2.2.2.2.2.2.1, vw (Sha.rounds (Sha.sch bb 64) (a0, a1, a2, a3, a4, a5, a6, a7) i.toNat).2.2.2.2.2.2.2]))) (fun (i : Int) => 0 ≤ i ∧ i ≤ 64) (fun (i : Int) => (64 - i).toNat) (hF.sub ⟨rfl, rfl, rfl, rfl, rfl, rfl, rfl, trivial⟩) (by subst hhs0; exact hS) (by simp) ?_
 clear hF hS; rintro i a w hfact hF hS
 subst hhs0; (try dsimp only at hfact); (try dsimp only at hF); (try dsimp only at hS)
 obtain ⟨hi0, hi1⟩ := hfact
 replace hS : St _ [] [_, _, _, _, _] _ := hS
 refine wp_seq_k ?_; intro K6 hK6
 refine reg hF hS (sq rfl (q_lti rfl rfl) <|
   sq_end) ?_
 clear hF hS; intro a w hF hS
 refine hK6 _ _ ?_
 clear hK6
 refine wp_seq_k ?_; intro K7 hK7
 refine wp_ifd hF rfl (fun hc1 => ?_) (fun hc1 => ?_)
 ·refine wp_skip ?_
  refine hK7 _ _ ?_
  clear hK7
  refine wp_seq_k ?_; intro K8 hK8
  refine wp_block ?_
  refine wp_seq_k ?_; intro K9 hK9
  refine reg hF hS (sq rfl (q_move rfl) <|
    sq rfl (q_idx_aggM ty162 ty151 (0 : UInt32) rfl rfl (by omega) bQ rfl) <|
    sq rfl (q_assign rfl) <|
    sq rfl (q_assign rfl) <|
    sq_end) ?_
  clear hF hS; intro a w hF hS
  refine hK9 _ _ ?_
  clear hK9
  refine wp_seq_k ?_; intro K10 hK10
  refine regd mixed kQ hF hS (sq rfl (q_idx_arr ty166 ty151 rfl rfl (by omega)) <|
    sq rfl (q_ld_blk1 ty151 0 rfl rfl rfl rfl) <|
    sq rfl (q_idx_arr ty166 ty151 rfl rfl (by omega)) <|
    sq rfl (q_ld_blk1 ty151 0 rfl rfl rfl rfl) <|
    sq rfl (q_call fn116 rfl (fun w hS => mix_ct _ _ _ _ (by omega) (by omega) (by omega) w ) (fun _ _ _ h => h)) <|
    sq rfl (q_addw rfl rfl) <|
    sq rfl (q_idx_arr ty166 ty151 rfl rfl (by omega)) <|
    sq rfl (q_ld_blk1 ty151 0 rfl rfl rfl rfl) <|
    sq rfl (q_idx_arr ty166 ty151 rfl rfl (by omega)) <|
    sq rfl (q_ld_blk1 ty151 0 rfl rfl rfl rfl) <|
    sq rfl (q_andw rfl rfl) <|
    sq rfl (q_idx_arr ty166 ty151 rfl rfl (by omega)) <|
    sq rfl (q_ld_blk1 ty151 0 rfl rfl rfl rfl) <|
    sq rfl (q_notw rfl) <|
    sq rfl (q_idx_arr ty166 ty151 rfl rfl (by omega)) <|
    sq rfl (q_ld_blk1 ty151 0 rfl rfl rfl rfl) <|
    sq rfl (q_andw rfl rfl) <|
    sq rfl (q_xorw rfl rfl) <|
    sq rfl (q_addw rfl rfl) <|
    sq rfl (q_move rfl) <|
    sq rfl (q_addw rfl rfl) <|
    sq rfl (q_move rfl) <|
    sq rfl (q_idx_arr0 ty162 ty151 rfl rfl (by omega)) <|
    sq rfl (q_ld_blkM ty151 2 0 rfl rfl bQ rfl) <|
    sq rfl (q_addw rfl rfl) <|
    sq rfl (q_assign rfl) <|
    sq_end) ?_
  clear hF hS; intro a w hF hS
  refine hK10 _ _ ?_
  clear hK10
  refine wp_seq_k ?_; intro K11 hK11
  refine regd mixed kQ hF hS (sq rfl (q_idx_arr ty166 ty151 rfl rfl (by omega)) <|
    sq rfl (q_ld_blk1 ty151 1 rfl rfl rfl rfl) <|
    sq rfl (q_call fn116 rfl (fun w hS => mix_ct _ _ _ _ (by omega) (by omega) (by omega) w ) (fun _ _ _ h => h)) <|
    sq rfl (q_idx_arr ty166 ty151 rfl rfl (by omega)) <|
    sq rfl (q_ld_blk1 ty151 1 rfl rfl rfl rfl) <|
    sq rfl (q_idx_arr ty166 ty151 rfl rfl (by omega)) <|
    sq rfl (q_ld_blk1 ty151 1 rfl rfl rfl rfl) <|
    sq rfl (q_andw rfl rfl) <|
    sq rfl (q_idx_arr ty166 ty151 rfl rfl (by omega)) <|
    sq rfl (q_ld_blk1 ty151 1 rfl rfl rfl rfl) <|
    sq rfl (q_idx_arr ty166 ty151 rfl rfl (by omega)) <|
    sq rfl (q_ld_blk1 ty151 1 rfl rfl rfl rfl) <|
    sq rfl (q_andw rfl rfl) <|
    sq rfl (q_xorw rfl rfl) <|
    sq rfl (q_idx_arr ty166 ty151 rfl rfl (by omega)) <|
    sq rfl (q_ld_blk1 ty151 1 rfl rfl rfl rfl) <|
    sq rfl (q_idx_arr ty166 ty151 rfl rfl (by omega)) <|
    sq rfl (q_ld_blk1 ty151 1 rfl rfl rfl rfl) <|
    sq rfl (q_andw rfl rfl) <|
    sq rfl (q_xorw rfl rfl) <|
    sq rfl (q_addw rfl rfl) <|
    sq rfl (q_assign rfl) <|
    sq_end) ?_
  clear hF hS; intro a w hF hS
  refine hK11 _ _ ?_
  clear hK11
  refine wp_seq_k ?_; intro K12 hK12
  refine regl ?_
  refine wpl_sq hF hS (sq rfl (q_idx_arr ty166 ty151 rfl rfl (by omega)) <|
    sq rfl (q_ld_blk1 ty151 1 rfl rfl rfl rfl) <|
    sq rfl (q_move rfl) <|
    sq rfl (q_addw rfl rfl) <|
    sq rfl (q_idx_arr ty166 ty151 rfl rfl (by omega)) <|
    sq rfl (q_ld_blk1 ty151 0 rfl rfl rfl rfl) <|
    sq rfl (q_idx_arr ty166 ty151 rfl rfl (by omega)) <|
    sq rfl (q_ld_blk1 ty151 0 rfl rfl rfl rfl) <|
    sq rfl (q_idx_arr ty166 ty151 rfl rfl (by omega)) <|
    sq rfl (q_ld_blk1 ty151 0 rfl rfl rfl rfl) <|
    sq rfl (q_buildA1 ty166 ty151 rfl rfl oQ rfl rfl) <|
    sq_end) ?_
  clear hF hS; intro a w hF hS
  refine wpl_ef hF hS rfl (ef_storeW ty166 0 rfl rfl rfl rfl bQ oQ bQ) ?_
  clear hF hS; rintro _ _ _ a w ⟨rfl, rfl, rfl⟩ hF hS
  replace hS : St _ [] [_, _, _, _, _] _ := hS
  refine wpList_nil ?_
  refine hK12 _ _ ?_
  clear hK12
  refine regl ?_
  refine wpl_sq hF hS (sq rfl (q_move rfl) <|
    sq rfl (q_move rfl) <|
    sq rfl (q_addw rfl rfl) <|
    sq rfl (q_idx_arr ty166 ty151 rfl rfl (by omega)) <|
    sq rfl (q_ld_blk1 ty151 1 rfl rfl rfl rfl) <|
    sq rfl (q_idx_arr ty166 ty151 rfl rfl (by omega)) <|
    sq rfl (q_ld_blk1 ty151 1 rfl rfl rfl rfl) <|
    sq rfl (q_idx_arr ty166 ty151 rfl rfl (by omega)) <|
    sq rfl (q_ld_blk1 ty151 1 rfl rfl rfl rfl) <|
    sq rfl (q_buildA1 ty166 ty151 rfl rfl oQ rfl rfl) <|
    sq_end) ?_
  clear hF hS; intro a w hF hS
  refine wpl_ef hF hS rfl (ef_storeW ty166 1 rfl rfl rfl rfl bQ oQ bQ) ?_
  clear hF hS; rintro _ _ _ a w ⟨rfl, rfl, rfl⟩ hF hS
  replace hS : St _ [] [_, _, _, _, _] _ := hS
  refine wpList_nil ?_
  refine hK8 _ _ ?_
  clear hK8
  refine reg hF hS (sq rfl (q_addi rfl rfl (by omega)) <|
    sq rfl (q_move rfl) <|
    sq_end) ?_
  clear hF hS; intro a w hF hS
  refine ⟨(i + 1), ?_, ?_, hF.sub ⟨rfl, rfl, rfl, rfl, rfl, rfl, rfl, trivial⟩, ?_⟩
  ·(try dsimp only); omega
  ·(try dsimp only); omega
  ·rw [Sha.rounds_succ _ _ i hi0]
   exact hS
 ·obtain rfl : i = 64 := by omega
  rw [show (64 : Int).toNat = 64 from rfl] at hS
  generalize hR : Sha.rounds (Sha.sch bb 64) (a0, a1, a2, a3, a4, a5, a6, a7) 64 = R at hS
  obtain ⟨r0, r1, r2, r3, r4, r5, r6, r7⟩ := R
  dsimp only at hS
  refine wp_exit ?_
  refine hK4 _ _ ?_
  clear hK4
  refine wp_seq_k ?_; intro K13 hK13
  refine wp_seq_k ?_; intro K14 hK14
  refine reg hF hS (sq rfl (q_move rfl) <|
    sq_end) ?_
  clear hF hS; intro a w hF hS
  refine hK14 _ _ ?_
  clear hK14
  refine wp_block ?_
  obtain ⟨hs0, hhs0, hS⟩ : ∃ h, h = _ ∧ St _ _ h _ := ⟨_, rfl, hS⟩
  refine wp_loopx (γ := Int) (0) (fun (i : Int) => [(94, vi i)]) [(2, _), (4, _), (6, _), (7, _)] (fun (i : Int) => (((hs0.set 4 (.blk b1 152 ((Sha.upd [a0, a1, a2, a3, a4, a5, a6, a7] [r0, r1, r2, r3, r4, r5, r6, r7] i.toNat).map vw))).set 1 (.blk b_2_6 166 ([r0, r1, r2, r3].map vw))).set 0 (.blk b_2_7 166 ([r4, r5, r6, r7].map vw)))) (fun (i : Int) => 0 ≤ i ∧ i ≤ 4) (fun (i : Int) => (4 - i).toNat) (hF.sub ⟨rfl, rfl, rfl, rfl, rfl, trivial⟩) (by subst hhs0; exact hS) (by simp) ?_
  clear hF hS; rintro i a w hfact hF hS
  subst hhs0; (try dsimp only at hfact); (try dsimp only at hF); (try dsimp only at hS)
  obtain ⟨hi0, hi1⟩ := hfact
  replace hS : St _ [] [_, _, _, _, _] _ := hS
  have hul := Sha.upd_len [a0, a1, a2, a3, a4, a5, a6, a7] [r0, r1, r2, r3, r4, r5, r6, r7] i.toNat
  refine wp_seq_k ?_; intro K15 hK15
  refine reg hF hS (sq rfl (q_lti rfl rfl) <|
    sq_end) ?_
  clear hF hS; intro a w hF hS
  refine hK15 _ _ ?_
  clear hK15
  refine wp_seq_k ?_; intro K16 hK16
  refine wp_ifd hF rfl (fun hc2 => ?_) (fun hc2 => ?_)
  ·refine wp_skip ?_
   refine hK16 _ _ ?_
   clear hK16
   refine wp_seq_k ?_; intro K17 hK17
   refine wp_block ?_
   refine wp_seq_k ?_; intro K18 hK18
   refine reg hF hS (sq rfl (q_move rfl) <|
     sq rfl (q_assign rfl) <|
     sq_end) ?_
   clear hF hS; intro a w hF hS
   refine hK18 _ _ ?_
   clear hK18
   refine wp_seq_k ?_; intro K19 hK19
   refine regt 8 mixed kQ hF hS (sq rfl (q_move rfl) <|
     sq rfl (q_idx_arr0 ty152 ty151 rfl rfl (by omega)) <|
     sq rfl (q_ld_blkM ty151 4 0 rfl rfl bQ rfl) <|
     sq rfl (q_move rfl) <|
     sq rfl (q_idx_arr0 ty166 ty151 rfl rfl (by omega)) <|
     sq rfl (q_ld_blkM ty151 1 0 rfl rfl bQ rfl) <|
     sq rfl (q_addw rfl rfl) <|
     sq rfl (q_idx_arr0 ty152 ty151 rfl rfl (by omega)) <|
     sq_end) ?_
   clear hF hS; intro a w hF hS
   refine wpl_ef hF hS rfl (ef_st_blkM ty151 4 rfl rfl rfl bQ rfl) ?_
   clear hF hS; rintro _ _ _ a w ⟨rfl, rfl, rfl⟩ hF hS
   replace hS : St _ [] [_, _, _, _, _] _ := hS
   refine wpList_nil ?_
   refine hK19 _ _ ?_
   clear hK19
   refine regt 9 mixed kQ hF hS (sq rfl (q_move rfl) <|
     sq rfl (q_addi rfl rfl (by omega)) <|
     sq rfl (q_idx_arr0 ty152 ty151 rfl rfl (by omega)) <|
     sq rfl (q_ld_blkM ty151 4 0 rfl rfl bQ rfl) <|
     sq rfl (q_move rfl) <|
     sq rfl (q_idx_arr0 ty166 ty151 rfl rfl (by omega)) <|
     sq rfl (q_ld_blkM ty151 0 0 rfl rfl bQ rfl) <|
     sq rfl (q_addw rfl rfl) <|
     sq rfl (q_idx_arr0 ty152 ty151 rfl rfl (by omega)) <|
     sq_end) ?_
   clear hF hS; intro a w hF hS
   refine wpl_ef hF hS rfl (ef_st_blkM ty151 4 rfl rfl rfl bQ rfl) ?_
   clear hF hS; rintro _ _ _ a w ⟨rfl, rfl, rfl⟩ hF hS
   replace hS : St _ [] [_, _, _, _, _] _ := hS
   refine wpList_nil ?_
   refine hK17 _ _ ?_
   clear hK17
   refine reg hF hS (sq rfl (q_addi rfl rfl (by omega)) <|
     sq rfl (q_move rfl) <|
     sq_end) ?_
   clear hF hS; intro a w hF hS
   refine ⟨(i + 1), ?_, ?_, hF.sub ⟨rfl, rfl, rfl, rfl, rfl, trivial⟩, ?_⟩
   ·(try dsimp only); omega
   ·(try dsimp only); omega
   ·have h4 : i = 0 ∨ i = 1 ∨ i = 2 ∨ i = 3 := by omega
    rcases h4 with rfl | rfl | rfl | rfl <;> exact hS
  ·obtain rfl : i = 4 := by omega
   have hul4 := Sha.upd_len [a0, a1, a2, a3, a4, a5, a6, a7] [r0, r1, r2, r3, r4, r5, r6, r7] 4
   have hcomp : Sha.comp [a0, a1, a2, a3, a4, a5, a6, a7] bb = Sha.upd [a0, a1, a2, a3, a4, a5, a6, a7] [r0, r1, r2, r3, r4, r5, r6, r7] 4 := by
    show List.zipWith (· + ·) [a0, a1, a2, a3, a4, a5, a6, a7] (Sha.l8 (Sha.rounds (Sha.sch bb 64) (a0, a1, a2, a3, a4, a5, a6, a7) 64)) = _
    rw [hR]
    rfl
   refine wp_exit ?_
   refine hK13 _ _ ?_
   clear hK13
   refine wp_seq_k ?_; intro K20 hK20
   refine regl ?_
   refine wpl_sq hF hS (sq rfl (q_ld_blkW ty152 4 rfl rfl bQ rfl) <|
     sq_end) ?_
   clear hF hS; intro a w hF hS
   refine wpl_ef hF hS rfl (ef_storeW ty152 3 rfl rfl rfl rfl bQ oQ bQ) ?_
   clear hF hS; rintro _ _ _ a w ⟨rfl, rfl, rfl⟩ hF hS
   replace hS : St _ [] [_, _, _, _, _] _ := hS
   refine wpList_nil ?_
   refine hK20 _ _ ?_
   clear hK20
   refine wp_ret ?_
   exact fn_ret (rs := [.cell 4 152]) rfl hF hS (vs := [_]) ⟨⟨_, _, _, _, _, _, _, rfl, List.mem_of_getElem? (i := 3) rfl, ty152, .inl ⟨rfl, bQ, rfl⟩⟩, trivial⟩ zQ zQ (by rw [hcomp]; rfl)
end Go.Proofs.YtdojfnigffeblaaDoor
