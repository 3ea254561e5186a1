/- A text of a proof over this seat: walks over the program's functions and the plain laws that they need. -/
import Derived.Test.YtngcjojijaknnaaGreatDoorFwB
import Derived.Test.YtngcjojijaknnaaGreatDoorShW
import Derived.Test.YtngcjojijaknnaaGreatDoorDkA
import Derived.Test.YtngcjojijaknnaaGreatDoorLlay
import Derived.Test.YtngcjojijaknnaaGreatDoorChecked
set_option linter.all false
section
namespace Go.Proofs.YtngcjojijaknnaaGreatDoor
open Go.Fw
theorem mixed : Tryz.prog.follows .mixedOrders = true := by kernel_rfl
theorem ty3 : Tf Tryz.prog 3 (.int .i64) 1 8 (Value.int .i64 0) := ⟨Tryz.underlying3, by kernel_rfl⟩
theorem ty5 : Tf Tryz.prog 5 (.int .u8) 1 1 (Value.int .u8 0) := ⟨Tryz.underlying5, by kernel_rfl⟩
theorem ty25 : Tf Tryz.prog 25 (.slice 5) 1 24 (Value.slice none 0 0) := ⟨Tryz.underlying25, by kernel_rfl⟩
theorem ty113 : Tf Tryz.prog 113 (.int .u64) 1 8 (Value.int .u64 0) := ⟨Tryz.underlying113, by kernel_rfl⟩
theorem ty220 : Tf Tryz.prog 220 (.int .u32) 1 4 (Value.int .u32 0) := ⟨Tryz.underlying220, by kernel_rfl⟩
theorem ty221 : Tf Tryz.prog 221 (.array 8 220) 8 32 (.agg (List.replicate 8 (Value.int .u32 0)).toArray) := ⟨Tryz.underlying221, by kernel_rfl⟩
theorem ty239 : Tf Tryz.prog 239 (.array 64 220) 64 256 (.agg (List.replicate 64 (Value.int .u32 0)).toArray) := ⟨Tryz.underlying239, by kernel_rfl⟩
theorem ty263 : Tf Tryz.prog 263 (.array 4 220) 4 16 (.agg ([Value.int .u32 0, Value.int .u32 0, Value.int .u32 0, Value.int .u32 0]).toArray) := ⟨Tryz.underlying263, by kernel_rfl⟩
theorem fn186 : FnOk Tryz.prog 186 := ⟨_, Tryz.func186, rfl, by kernel_rfl⟩
theorem fn187 : FnOk Tryz.prog 187 := ⟨_, Tryz.func187, rfl, by kernel_rfl⟩
theorem fn203 : FnOk Tryz.prog 203 := ⟨_, Tryz.func203, rfl, by kernel_rfl⟩

set_option maxRecDepth 4000 in
set_option maxHeartbeats 2000000 in
theorem rot_ct (x : UInt32) (k : Int) (w : World) : Ct Tryz.prog 203 [vw x, vi k] w (fun v _ _ => v = vw (Sha.rotl x k)) := by
 refine fn_enter Tryz.func203 rfl Tryz.ntmps203 (Nat.le_of_ble_eq_true rfl) fun a hF hS => ?_
 have hk := (ofq k &&& 31)
 refine wp_seq_k ?_; intro K1 hK1
 refine reg hF hS (sq rfl (q_assign rfl) <|
   sq_end) ?_
 clear hF hS; intro a w hF hS
 refine hK1 _ _ ?_
 clear hK1
 refine wp_seq_k ?_; intro K2 hK2
 refine reg hF hS (sq rfl (q_move rfl) <|
   sq rfl (q_cv_iq ty3 ty113 rfl) <|
   sq rfl (q_andq (q := 31) rfl rfl) <|
   sq rfl (q_assign rfl) <|
   sq_end) ?_
 clear hF hS; intro a w hF hS
 refine hK2 _ _ ?_
 clear hK2
 refine wp_seq_k ?_; intro K3 hK3
 refine reg hF hS (sq rfl (q_move rfl) <|
   sq rfl (q_move rfl) <|
   sq rfl (q_shlw rfl rfl (by omega)) <|
   sq rfl (q_move rfl) <|
   sq rfl (q_move rfl) <|
   sq rfl (q_subq (p := 32) rfl rfl) <|
   sq rfl (q_shrw rfl rfl (by omega)) <|
   sq rfl (q_orw rfl rfl) <|
   sq rfl (q_assign rfl) <|
   sq_end) ?_
 clear hF hS; intro a w hF hS
 refine hK3 _ _ ?_
 clear hK3
 refine wp_ret ?_
 exact fn_ret (rs := [.tmp 4]) rfl hF hS (vs := [_]) ⟨rfl, trivial⟩ zQ zQ (rfl)

set_option maxRecDepth 4000 in
set_option maxHeartbeats 2000000 in
theorem mix_ct (x : UInt32) (i j k : Int) (hi : 0 < i ∧ i < 32) (hj : 0 < j ∧ j < 32) (hk : 0 < k ∧ k < 32) (w : World) : Ct Tryz.prog 187 [vw x, vi i, vi j, vi k] w (fun v _ _ => v = vw (Sha.rotr x (UInt32.ofNat i.toNat) ^^^ Sha.rotr x (UInt32.ofNat j.toNat) ^^^ Sha.rotr x (UInt32.ofNat k.toNat))) := by
 refine fn_enter Tryz.func187 rfl Tryz.ntmps187 (Nat.le_of_ble_eq_true rfl) fun a hF hS => ?_
 refine wp_seq_k ?_; intro K1 hK1
 refine reg hF hS (sq rfl (q_assign rfl) <|
   sq_end) ?_
 clear hF hS; intro a w hF hS
 refine hK1 _ _ ?_
 clear hK1
 refine wp_seq_k ?_; intro K2 hK2
 refine reg hF hS (sq rfl (q_move rfl) <|
   sq rfl (q_move rfl) <|
   sq rfl (q_negi rfl (by omega)) <|
   sq rfl (q_call fn203 rfl (fun w hS => rot_ct _ _ w ) (fun _ _ _ h => h)) <|
   sq rfl (q_move rfl) <|
   sq rfl (q_move rfl) <|
   sq rfl (q_negi rfl (by omega)) <|
   sq rfl (q_call fn203 rfl (fun w hS => rot_ct _ _ w ) (fun _ _ _ h => h)) <|
   sq rfl (q_xorw rfl rfl) <|
   sq rfl (q_move rfl) <|
   sq rfl (q_move rfl) <|
   sq rfl (q_negi rfl (by omega)) <|
   sq rfl (q_call fn203 rfl (fun w hS => rot_ct _ _ w ) (fun _ _ _ h => h)) <|
   sq rfl (q_xorw rfl rfl) <|
   sq rfl (q_assign rfl) <|
   sq_end) ?_
 clear hF hS; intro a w hF hS
 refine hK2 _ _ ?_
 clear hK2
 refine wp_ret ?_
 exact fn_ret (rs := [.tmp 8]) rfl hF hS (vs := [_]) ⟨rfl, trivial⟩ zQ zQ (by rw [Sha.mix_rotr x i j k hi hj hk])

set_option maxRecDepth 4000 in
set_option maxHeartbeats 2000000 in
theorem sched_ct (v : Value) (bb : List UInt8) (hl : bb.length = 64) (w : World) (hb : Sl encB (ph w) v bb) : Ct Tryz.prog 186 [v] w (fun r _ _ => r = .agg ((Sha.sch bb 64).map vw).toArray) := by
 refine fn_enter Tryz.func186 rfl Tryz.ntmps186 (Nat.le_of_ble_eq_true rfl) fun a hF hS => ?_
 have hb := hb
 refine wp_seq_k ?_; intro K1 hK1
 refine regl ?_
 refine wpl_ef hF hS rfl (ef_allocA ty239) ?_
 clear hF hS; rintro _ _ _ a w ⟨b1, rfl, rfl, rfl⟩ hF hS
 rw [show List.replicate 64 (Value.int .u32 0) = (List.replicate 64 (0 : UInt32)).map vw from by rw [List.map_replicate] <;> rfl] at hS
 refine wpList_nil ?_
 refine hK1 _ _ ?_
 clear hK1
 refine wp_seq_k ?_; intro K2 hK2
 refine regl ?_
 refine wpl_ef hF hS rfl (ef_allocA ty239) ?_
 clear hF hS; rintro _ _ _ a w ⟨b2, rfl, rfl, rfl⟩ hF hS
 rw [show List.replicate 64 (Value.int .u32 0) = (List.replicate 64 (0 : UInt32)).map vw from by rw [List.map_replicate] <;> rfl] at hS
 refine wpList_nil ?_
 refine hK2 _ _ ?_
 clear hK2
 refine wp_seq_k ?_; intro K3 hK3
 refine wp_seq_k ?_; intro K4 hK4
 refine reg hF hS (sq rfl (q_move rfl) <|
   sq_end) ?_
 clear hF hS; intro a w hF hS
 refine hK4 _ _ ?_
 clear hK4
 refine wp_block ?_
 obtain ⟨hs0, hhs0, hS⟩ : ∃ h, h = _ ∧ St _ _ h _ := ⟨_, rfl, hS⟩
 refine wp_loopx (γ := Int) (0) (fun (t : Int) => [(11, vi t)]) [(0, _), (2, _), (3, _)] (fun (t : Int) => (hs0.set 0 (.blk b2 239 ((Sha.schW bb t.toNat).map vw)))) (fun (t : Int) => 0 ≤ t ∧ t ≤ 64) (fun (t : Int) => (64 - t).toNat) (hF.sub ⟨rfl, rfl, rfl, rfl, trivial⟩) (by subst hhs0; exact hS) (by simp) ?_
 clear hF hS; rintro t a w hfact hF hS
 subst hhs0; (try dsimp only at hfact); (try dsimp only at hF); (try dsimp only at hS)
 obtain ⟨ht0, ht1⟩ := hfact
 replace hS : St _ [] [_, _] _ := hS
 have hwl := Sha.schW_len bb t.toNat (by omega)
 refine wp_seq_k ?_; intro K5 hK5
 refine reg hF hS (sq rfl (q_lti rfl rfl) <|
   sq_end) ?_
 clear hF hS; intro a w hF hS
 refine hK5 _ _ ?_
 clear hK5
 refine wp_seq_k ?_; intro K6 hK6
 refine wp_ifd hF rfl (fun hc1 => ?_) (fun hc1 => ?_)
 ·refine wp_skip ?_
  refine hK6 _ _ ?_
  clear hK6
  refine wp_seq_k ?_; intro K7 hK7
  refine wp_block ?_
  refine wp_seq_k ?_; intro K8 hK8
  refine reg hF hS (sq rfl (q_move rfl) <|
    sq rfl (q_assign rfl) <|
    sq_end) ?_
  clear hF hS; intro a w hF hS
  refine hK8 _ _ ?_
  clear hK8
  refine wp_seq_k ?_; intro K9 hK9
  refine wp_seq_k ?_; intro K10 hK10
  refine reg hF hS (sq rfl (q_move rfl) <|
    sq rfl (q_lti rfl rfl) <|
    sq_end) ?_
  clear hF hS; intro a w hF hS
  refine hK10 _ _ ?_
  clear hK10
  refine wp_ifd hF rfl (fun hc2 => ?_) (fun hc2 => ?_)
  ·refine wp_seq_k ?_; intro K11 hK11
   refine wp_seq_k ?_; intro K12 hK12
   refine reg hF hS (sq rfl (q_move rfl) <|
     sq rfl (q_move rfl) <|
     sq rfl (q_muli rfl rfl (by omega)) <|
     sq rfl (q_move rfl) <|
     sq rfl (q_muli rfl rfl (by omega)) <|
     sq rfl (q_addi rfl rfl (by omega)) <|
     sq rfl (q_slsl_lo_hi ty25 ty5 hb rfl rfl rfl (by omega)) <|
     sq rfl (q_len_sl ty25 (Sl.cut hb (by omega)) rfl) <|
     sq rfl (q_move rfl) <|
     sq_end) ?_
   clear hF hS; intro a w hF hS
   have hlen : (((bb.take (4 * t + 4).toNat).drop (4 * t).toNat).length : Int) = 4 := by simp; omega
   refine hK12 _ _ ?_
   clear hK12
   refine wp_block ?_
   obtain ⟨hs0, hhs0, hS⟩ : ∃ h, h = _ ∧ St _ _ h _ := ⟨_, rfl, hS⟩
   refine wp_loopx (γ := Int) (0) (fun (j : Int) => [(24, vi j)]) [(0, _), (2, _), (3, _), (4, _), (11, _), (22, _), (23, _)] (fun (j : Int) => (hs0.set 0 (.blk b2 239 ((Sha.schA bb t.toNat j.toNat).map vw)))) (fun (j : Int) => 0 ≤ j ∧ j ≤ 4) (fun (j : Int) => (4 - j).toNat) (hF.sub ⟨rfl, rfl, rfl, rfl, rfl, rfl, rfl, rfl, trivial⟩) (by subst hhs0; rw [Sha.schW_A bb t.toNat (by omega)] at hS; exact hS) (by simp) ?_
   clear hF hS; rintro j a w hfact hF hS
   subst hhs0; (try dsimp only at hfact); (try dsimp only at hF); (try dsimp only at hS)
   obtain ⟨hj0, hj1⟩ := hfact
   replace hS : St _ [] [_, _] _ := hS
   have hal := Sha.schA_len bb t.toNat j.toNat (by omega)
   refine wp_seq_k ?_; intro K13 hK13
   refine reg hF hS (sq rfl (q_lti rfl rfl) <|
     sq_end) ?_
   clear hF hS; intro a w hF hS
   refine hK13 _ _ ?_
   clear hK13
   refine wp_seq_k ?_; intro K14 hK14
   refine wp_ifd hF rfl (fun hc3 => ?_) (fun hc3 => ?_)
   ·refine wp_skip ?_
    refine hK14 _ _ ?_
    clear hK14
    refine wp_seq_k ?_; intro K15 hK15
    refine wp_block ?_
    refine wp_seq_k ?_; intro K16 hK16
    refine reg hF hS (sq rfl (q_idx_sl ty25 ty5 (Sl.cut hb (by omega)) rfl rfl (by omega)) <|
      sq rfl (q_ld_B ty5 (Sl.cut hb (by omega)) zin0 rfl rfl (by omega)) <|
      sq rfl (q_assign rfl) <|
      sq_end) ?_
    clear hF hS; intro a w hF hS
    refine hK16 _ _ ?_
    clear hK16
    refine regl ?_
    refine wpl_sq hF hS (sq rfl (q_move rfl) <|
      sq rfl (q_move rfl) <|
      sq rfl (q_idx_arr0 ty239 ty220 rfl rfl (by omega)) <|
      sq rfl (q_ld_blkM ty220 0 0 rfl rfl bQ rfl) <|
      sq rfl (q_shlw rfl rfl (by omega)) <|
      sq rfl (q_move rfl) <|
      sq rfl (q_cv_bw ty5 ty220 rfl) <|
      sq rfl (q_orw rfl rfl) <|
      sq rfl (q_idx_arr0 ty239 ty220 rfl rfl (by omega)) <|
      sq_end) ?_
    clear hF hS; intro a w hF hS
    refine wpl_ef hF hS rfl (ef_st_blkM ty220 0 rfl rfl rfl bQ rfl) ?_
    clear hF hS; rintro _ _ _ a w ⟨rfl, rfl, rfl⟩ hF hS
    replace hS : St _ [] [_, _] _ := hS
    refine wpList_nil ?_
    refine hK15 _ _ ?_
    clear hK15
    refine reg hF hS (sq rfl (q_addi rfl rfl (by omega)) <|
      sq rfl (q_move rfl) <|
      sq_end) ?_
    clear hF hS; intro a w hF hS
    rw [Sha.acc_step bb t j (by omega) (by omega) (by omega) (by omega) hl] at hS
    refine ⟨(j + 1), ?_, ?_, hF.sub ⟨rfl, rfl, rfl, rfl, rfl, rfl, rfl, rfl, trivial⟩, ?_⟩
    ·(try dsimp only); omega
    ·(try dsimp only); omega
    ·exact hS
   ·refine wp_exit ?_
    refine hK11 _ _ ?_
    clear hK11
    refine wp_exit ?_
    refine hK7 _ _ ?_
    clear hK7
    refine reg hF hS (sq rfl (q_addi rfl rfl (by omega)) <|
      sq rfl (q_move rfl) <|
      sq_end) ?_
    clear hF hS; intro a w hF hS
    have hj : j = 4 := by omega
    subst hj
    rw [show (4 : Int).toNat = 4 from rfl, Sha.schA_end bb t.toNat (by omega), show t.toNat + 1 = (t + 1).toNat by omega] at hS
    refine ⟨(t + 1), ?_, ?_, hF.sub ⟨rfl, rfl, rfl, rfl, trivial⟩, ?_⟩
    ·(try dsimp only); omega
    ·(try dsimp only); omega
    ·exact hS
  ·refine wp_skip ?_
   refine hK9 _ _ ?_
   clear hK9
   refine wp_seq_k ?_; intro K17 hK17
   refine regd mixed kQ hF hS (sq rfl (q_move rfl) <|
     sq rfl (q_subi rfl rfl (by omega)) <|
     sq rfl (q_idx_arr0 ty239 ty220 rfl rfl (by omega)) <|
     sq rfl (q_ld_blkM ty220 0 0 rfl rfl bQ rfl) <|
     sq rfl (q_move rfl) <|
     sq rfl (q_subi rfl rfl (by omega)) <|
     sq rfl (q_idx_arr0 ty239 ty220 rfl rfl (by omega)) <|
     sq rfl (q_ld_blkM ty220 0 0 rfl rfl bQ rfl) <|
     sq rfl (q_assign rfl) <|
     sq rfl (q_assign rfl) <|
     sq_end) ?_
   clear hF hS; intro a w hF hS
   refine hK17 _ _ ?_
   clear hK17
   refine wp_seq_k ?_; intro K18 hK18
   refine reg hF hS (sq rfl (q_move rfl) <|
     sq rfl (q_call fn203 rfl (fun w hS => rot_ct _ _ w ) (fun _ _ _ h => h)) <|
     sq rfl (q_move rfl) <|
     sq rfl (q_call fn203 rfl (fun w hS => rot_ct _ _ w ) (fun _ _ _ h => h)) <|
     sq rfl (q_xorw rfl rfl) <|
     sq rfl (q_move rfl) <|
     sq rfl (q_shrw rfl rfl (by omega)) <|
     sq rfl (q_xorw rfl rfl) <|
     sq rfl (q_assign rfl) <|
     sq_end) ?_
   clear hF hS; intro a w hF hS
   refine hK18 _ _ ?_
   clear hK18
   refine wp_seq_k ?_; intro K19 hK19
   refine reg hF hS (sq rfl (q_move rfl) <|
     sq rfl (q_call fn203 rfl (fun w hS => rot_ct _ _ w ) (fun _ _ _ h => h)) <|
     sq rfl (q_move rfl) <|
     sq rfl (q_call fn203 rfl (fun w hS => rot_ct _ _ w ) (fun _ _ _ h => h)) <|
     sq rfl (q_xorw rfl rfl) <|
     sq rfl (q_move rfl) <|
     sq rfl (q_shrw rfl rfl (by omega)) <|
     sq rfl (q_xorw rfl rfl) <|
     sq rfl (q_assign rfl) <|
     sq_end) ?_
   clear hF hS; intro a w hF hS
   refine hK19 _ _ ?_
   clear hK19
   refine regt 15 mixed kQ hF hS (sq rfl (q_move rfl) <|
     sq rfl (q_move rfl) <|
     sq rfl (q_subi rfl rfl (by omega)) <|
     sq rfl (q_idx_arr0 ty239 ty220 rfl rfl (by omega)) <|
     sq rfl (q_ld_blkM ty220 0 0 rfl rfl bQ rfl) <|
     sq rfl (q_move rfl) <|
     sq rfl (q_addw rfl rfl) <|
     sq rfl (q_move rfl) <|
     sq rfl (q_subi rfl rfl (by omega)) <|
     sq rfl (q_idx_arr0 ty239 ty220 rfl rfl (by omega)) <|
     sq rfl (q_ld_blkM ty220 0 0 rfl rfl bQ rfl) <|
     sq rfl (q_addw rfl rfl) <|
     sq rfl (q_move rfl) <|
     sq rfl (q_addw rfl rfl) <|
     sq rfl (q_idx_arr0 ty239 ty220 rfl rfl (by omega)) <|
     sq_end) ?_
   clear hF hS; intro a w hF hS
   refine wpl_ef hF hS rfl (ef_st_blkM ty220 0 rfl rfl rfl bQ rfl) ?_
   clear hF hS; rintro _ _ _ a w ⟨rfl, rfl, rfl⟩ hF hS
   replace hS : St _ [] [_, _] _ := hS
   refine wpList_nil ?_
   refine hK7 _ _ ?_
   clear hK7
   refine reg hF hS (sq rfl (q_addi rfl rfl (by omega)) <|
     sq rfl (q_move rfl) <|
     sq_end) ?_
   clear hF hS; intro a w hF hS
   rw [Sha.sch_step bb t (by omega) (by omega)] at hS
   refine ⟨(t + 1), ?_, ?_, hF.sub ⟨rfl, rfl, rfl, rfl, trivial⟩, ?_⟩
   ·(try dsimp only); omega
   ·(try dsimp only); omega
   ·exact hS
 ·obtain rfl : t = 64 := by omega
  rw [show (64 : Int).toNat = 64 from rfl] at hwl
  rw [show (64 : Int).toNat = 64 from rfl, Sha.schW_64] at hS
  have hsl := Sha.sch_len bb 64
  refine wp_exit ?_
  refine hK3 _ _ ?_
  clear hK3
  refine wp_seq_k ?_; intro K20 hK20
  refine regl ?_
  refine wpl_sq hF hS (sq rfl (q_ld_blkW ty239 0 rfl rfl bQ rfl) <|
    sq_end) ?_
  clear hF hS; intro a w hF hS
  refine wpl_ef hF hS rfl (ef_storeW ty239 1 rfl rfl rfl rfl bQ oQ bQ) ?_
  clear hF hS; rintro _ _ _ a w ⟨rfl, rfl, rfl⟩ hF hS
  replace hS : St _ [] [_, _] _ := hS
  refine wpList_nil ?_
  refine hK20 _ _ ?_
  clear hK20
  refine wp_ret ?_
  exact fn_ret (rs := [.cell 2 239]) rfl hF hS (vs := [_]) ⟨⟨_, _, _, _, _, _, _, rfl, List.mem_of_getElem? (i := 1) rfl, ty239, .inl ⟨rfl, bQ, rfl⟩⟩, trivial⟩ zQ zQ (rfl)

set_option maxRecDepth 4000 in
set_option maxHeartbeats 2000000 in
theorem compress_ct (v : Value) (ss : List UInt32) (bb : List UInt8) (hs8 : ss.length = 8) (hl : bb.length = 64) (w : World) (hb : Sl encB (ph w) v bb) {fz1 : Nat × Nat} {bt1 : TypeId} (hg1 : w.heap[1]? = some (.cells (Sha.kc.map vw).toArray bt1 fz1)) : Ct Tryz.prog 167 [.agg (ss.map vw).toArray, v] w (fun r _ _ => r = .agg ((Sha.comp ss bb).map vw).toArray) := by
 refine fn_enter Tryz.func167 rfl Tryz.ntmps167 (Nat.le_of_ble_eq_true rfl) fun a hF hS => ?_
 obtain ⟨a0, a1, a2, a3, a4, a5, a6, a7, rfl⟩ := Sha.list8 hs8
 have hsl := Sha.sch_len bb 64
 have hkl : Sha.kc.length = 64 := rfl
 refine wp_seq_k ?_; intro K1 hK1
 refine regl ?_
 refine wpl_ef hF hS rfl (ef_boxA rfl) ?_
 clear hF hS; rintro _ _ _ a w ⟨b1, rfl, rfl, rfl⟩ hF hS
 refine wpl_ef hF hS rfl (ef_allocA ty221) ?_
 clear hF hS; rintro _ _ _ a w ⟨b2, rfl, rfl, rfl⟩ hF hS
 refine wpList_nil ?_
 refine hK1 _ _ ?_
 clear hK1
 refine wp_seq_k ?_; intro K2 hK2
 refine regl ?_
 refine wpl_sq hF hS (sq rfl (q_move rfl) <|
   sq rfl (q_call fn186 rfl (fun w hS => sched_ct _ _ hl w (Sl.mono (hS.le zin0) hb)) (fun _ _ _ h => h)) <|
   sq_end) ?_
 clear hF hS; intro a w hF hS
 refine wpl_ef hF hS rfl (ef_allocA ty239) ?_
 clear hF hS; rintro _ _ _ a w ⟨b3, rfl, rfl, rfl⟩ hF hS
 rw [show List.replicate 64 (Value.int .u32 0) = (List.replicate 64 (0 : UInt32)).map vw from by rw [List.map_replicate] <;> rfl] at hS
 refine wpl_ef hF hS rfl (ef_storeW ty239 0 rfl rfl rfl rfl bQ oQ bQ) ?_
 clear hF hS; rintro _ _ _ a w ⟨rfl, rfl, rfl⟩ hF hS
 replace hS : St _ [] [_, _, _] _ := hS
 refine wpList_nil ?_
 refine hK2 _ _ ?_
 clear hK2
 refine wp_seq_k ?_; intro K3 hK3
 revert hS; revert hF; apply regJ (J := J2 (α0 := Nat) (α1 := Nat) 116 _ _ _ _ _) #[false, false, false, false, false, false, false, false, false, false] 10 mixed rfl rfl
 ·intro w hF hS
  refine goW_take 0 _ rfl kQ rfl hF (hS.keep sQ (sQ.n.n)) (q_sla_hi ty221 ty220 rfl rfl (by omega)) ?_
  clear hF; intro a hF
  refine goW_take 1 _ rfl kQ rfl hF (hS.keep sQ zQ) (q_s2ap ty263 rfl (by omega)) ?_
  clear hF; intro a hF
  refine goW_take 2 _ rfl kQ rfl hF (hS.keep sQ (sQ.n.n)) (q_ld_blkA ty263 0 rfl rfl rfl (by simp) rfl) ?_
  clear hF; intro a hF
  refine goW_take 3 _ rfl kQ rfl hF (hS.keep sQ (sQ.n.n)) (q_sla_lo ty221 ty220 rfl rfl (by omega)) ?_
  clear hF; intro a hF
  refine goW_take 4 _ rfl kQ rfl hF (hS.keep sQ zQ) (q_s2ap ty263 rfl (by omega)) ?_
  clear hF; intro a hF
  refine goW_take 5 _ rfl kQ rfl hF (hS.keep sQ (sQ.n.n)) (q_ld_blkA ty263 0 rfl rfl rfl (by simp) rfl) ?_
  clear hF; intro a hF
  refine goW_fork [6, 7] kQ rfl ⟨?_, ?_, trivial⟩
  ·refine stepW_ef _ rfl rfl hF hS rfl (ef_allocA ty263) ?_
   clear hF hS; rintro _ _ _ a w ⟨b_2_6, rfl, rfl, rfl⟩ hF hS
   refine ⟨⟨.inr (hS.k1 (sQ.n.n.n)), .inr hS.k0, .inr (hS.k1 (sQ.n.n.n)), .inr (hS.k1 (sQ.n.n.n)), .inr hS.k0, .inr (hS.k1 (sQ.n.n.n)), trivial⟩, ?_⟩
   refine gQ 7 rfl rfl hF hS rfl (ef_allocA ty263) ?_
   clear hF hS; rintro _ _ _ a w ⟨b_2_7, rfl, rfl, rfl⟩ hF hS
   refine ⟨⟨.inr (hS.k1 (sQ.n.n.n.n)), .inr hS.k0, .inr (hS.k1 (sQ.n.n.n.n)), .inr (hS.k1 (sQ.n.n.n.n)), .inr hS.k0, .inr (hS.k1 (sQ.n.n.n.n)), trivial⟩, ?_⟩
   refine gQ 8 rfl rfl hF hS rfl (ef_storeW ty263 1 rfl rfl rfl rfl bQ oQ bQ) ?_
   clear hF hS; rintro _ _ _ a w ⟨rfl, rfl, rfl⟩ hF hS
   refine ⟨⟨.inr (hS.k1 (sQ.n.n.n.n)), .inr hS.k0, .inr (hS.k1 (sQ.n.n.n.n)), iQ, iQ, iQ, trivial⟩, ?_⟩
   refine gQ 9 rfl rfl hF hS rfl (ef_storeW ty263 0 rfl rfl rfl rfl bQ oQ bQ) ?_
   clear hF hS; rintro _ _ _ a w ⟨rfl, rfl, rfl⟩ hF hS
   refine ⟨⟨iQ, iQ, iQ, iQ, iQ, iQ, trivial⟩, ?_⟩
   exact goW_done kQ (j2_mk b_2_6 b_2_7 (trivial) (hF.sub (L' := [(2, _), (4, _), (5, _), (6, _), (7, _)]) ⟨rfl, rfl, rfl, rfl, rfl, trivial⟩) hS)
  ·refine stepW_ef _ rfl rfl hF hS rfl (ef_allocA ty263) ?_
   clear hF hS; rintro _ _ _ a w ⟨b_2_7, rfl, rfl, rfl⟩ hF hS
   refine ⟨⟨.inr (hS.k1 (sQ.n.n.n)), .inr hS.k0, .inr (hS.k1 (sQ.n.n.n)), .inr (hS.k1 (sQ.n.n.n)), .inr hS.k0, .inr (hS.k1 (sQ.n.n.n)), trivial⟩, ?_⟩
   refine gQ 6 rfl rfl hF hS rfl (ef_allocA ty263) ?_
   clear hF hS; rintro _ _ _ a w ⟨b_2_6, rfl, rfl, rfl⟩ hF hS
   refine ⟨⟨.inr (hS.k1 (sQ.n.n.n.n)), .inr hS.k0, .inr (hS.k1 (sQ.n.n.n.n)), .inr (hS.k1 (sQ.n.n.n.n)), .inr hS.k0, .inr (hS.k1 (sQ.n.n.n.n)), trivial⟩, ?_⟩
   refine gQ 8 rfl rfl hF hS rfl (ef_storeW ty263 0 rfl rfl rfl rfl bQ oQ bQ) ?_
   clear hF hS; rintro _ _ _ a w ⟨rfl, rfl, rfl⟩ hF hS
   refine ⟨⟨.inr (hS.k1 (sQ.n.n.n.n)), .inr hS.k0, .inr (hS.k1 (sQ.n.n.n.n)), iQ, iQ, iQ, trivial⟩, ?_⟩
   refine gQ 9 rfl rfl hF hS rfl (ef_storeW ty263 1 rfl rfl rfl rfl bQ oQ bQ) ?_
   clear hF hS; rintro _ _ _ a w ⟨rfl, rfl, rfl⟩ hF hS
   refine ⟨⟨iQ, iQ, iQ, iQ, iQ, iQ, trivial⟩, ?_⟩
   exact goW_done kQ (j2_mk b_2_6 b_2_7 (trivial) (hF.sub (L' := [(2, _), (4, _), (5, _), (6, _), (7, _)]) ⟨rfl, rfl, rfl, rfl, rfl, trivial⟩) (hS.perm (.swap _ _ _)))
 rintro a w ⟨b_2_6, b_2_7, -, hF, hS⟩
 (try dsimp only at hF); (try dsimp only at hS)
 refine hK3 _ _ ?_
 clear hK3
 refine wp_seq_k ?_; intro K4 hK4
 refine wp_seq_k ?_; intro K5 hK5
 refine reg hF hS (sq rfl (q_ld_oldW ty239 rfl hg1 bQ rfl) <|
   sq rfl (q_move rfl) <|
   sq_end) ?_
 clear hF hS; intro a w hF hS
 refine hK5 _ _ ?_
 clear hK5
 refine wp_block ?_
 obtain ⟨hs0, hhs0, hS⟩ : ∃ h, h = _ ∧ St _ _ h _ := ⟨_, rfl, hS⟩
 refine wp_loopx (γ := Int) (0) (fun (i : Int) => [(22, vi i)]) [(2, _), (4, _), (5, _), (6, _), (7, _), (21, _)] (fun (i : Int) => ((hs0.set 1 (.blk b_2_6 263 [vw (Sha.rounds (Sha.sch bb 64) (a0, a1, a2, a3, a4, a5, a6, a7) i.toNat).1, vw (Sha.rounds (Sha.sch bb 64) (a0, a1, a2, a3, a4, a5, a6, a7) i.toNat).2.1, vw (Sha.rounds (Sha.sch bb 64) (a0, a1, a2, a3, a4, a5, a6, a7) i.toNat).2.2.1, vw (Sha.rounds (Sha.sch bb 64) (a0, a1, a2, a3, a4, a5, a6, a7) i.toNat).2.2.2.1])).set 0 (.blk b_2_7 263 [vw (Sha.rounds (Sha.sch bb 64) (a0, a1, a2, a3, a4, a5, a6, a7) i.toNat).2.2.2.2.1, vw (Sha.rounds (Sha.sch bb 64) (a0, a1, a2, a3, a4, a5, a6, a7) i.toNat).2.2.2.2.2.1, vw (Sha.rounds (Sha.sch bb 64) (a0, a1, a2, a3, a4, a5, a6, a7) i.toNat).2.2.2.2.2.2.1, vw (Sha.rounds (Sha.sch bb 64) (a0, a1, a2, a3, a4, a5, a6, a7) i.toNat).2.2.2.2.2.2.2]))) (fun (i : Int) => 0 ≤ i ∧ i ≤ 64) (fun (i : Int) => (64 - i).toNat) (hF.sub ⟨rfl, rfl, rfl, rfl, rfl, rfl, rfl, trivial⟩) (by subst hhs0; exact hS) (by simp) ?_
 clear hF hS; rintro i a w hfact hF hS
 subst hhs0; (try dsimp only at hfact); (try dsimp only at hF); (try dsimp only at hS)
 obtain ⟨hi0, hi1⟩ := hfact
 replace hS : St _ [] [_, _, _, _, _] _ := hS
 refine wp_seq_k ?_; intro K6 hK6
 refine reg hF hS (sq rfl (q_lti rfl rfl) <|
   sq_end) ?_
 clear hF hS; intro a w hF hS
 refine hK6 _ _ ?_
 clear hK6
 refine wp_seq_k ?_; intro K7 hK7
 refine wp_ifd hF rfl (fun hc1 => ?_) (fun hc1 => ?_)
 ·refine wp_skip ?_
  refine hK7 _ _ ?_
  clear hK7
  refine wp_seq_k ?_; intro K8 hK8
  refine wp_block ?_
  refine wp_seq_k ?_; intro K9 hK9
  refine reg hF hS (sq rfl (q_move rfl) <|
    sq rfl (q_idx_aggM ty239 ty220 (0 : UInt32) rfl rfl (by omega) bQ rfl) <|
    sq rfl (q_assign rfl) <|
    sq rfl (q_assign rfl) <|
    sq_end) ?_
  clear hF hS; intro a w hF hS
  refine hK9 _ _ ?_
  clear hK9
  refine wp_seq_k ?_; intro K10 hK10
  refine regd mixed kQ hF hS (sq rfl (q_idx_arr ty263 ty220 rfl rfl (by omega)) <|
    sq rfl (q_ld_blk1 ty220 0 rfl rfl rfl rfl) <|
    sq rfl (q_idx_arr ty263 ty220 rfl rfl (by omega)) <|
    sq rfl (q_ld_blk1 ty220 0 rfl rfl rfl rfl) <|
    sq rfl (q_call fn187 rfl (fun w hS => mix_ct _ _ _ _ (by omega) (by omega) (by omega) w ) (fun _ _ _ h => h)) <|
    sq rfl (q_addw rfl rfl) <|
    sq rfl (q_idx_arr ty263 ty220 rfl rfl (by omega)) <|
    sq rfl (q_ld_blk1 ty220 0 rfl rfl rfl rfl) <|
    sq rfl (q_idx_arr ty263 ty220 rfl rfl (by omega)) <|
    sq rfl (q_ld_blk1 ty220 0 rfl rfl rfl rfl) <|
    sq rfl (q_andw rfl rfl) <|
    sq rfl (q_idx_arr ty263 ty220 rfl rfl (by omega)) <|
    sq rfl (q_ld_blk1 ty220 0 rfl rfl rfl rfl) <|
    sq rfl (q_notw rfl) <|
    sq rfl (q_idx_arr ty263 ty220 rfl rfl (by omega)) <|
    sq rfl (q_ld_blk1 ty220 0 rfl rfl rfl rfl) <|
    sq rfl (q_andw rfl rfl) <|
    sq rfl (q_xorw rfl rfl) <|
    sq rfl (q_addw rfl rfl) <|
    sq rfl (q_move rfl) <|
    sq rfl (q_addw rfl rfl) <|
    sq rfl (q_move rfl) <|
    sq rfl (q_idx_arr0 ty239 ty220 rfl rfl (by omega)) <|
    sq rfl (q_ld_blkM ty220 2 0 rfl rfl bQ rfl) <|
    sq rfl (q_addw rfl rfl) <|
    sq rfl (q_assign rfl) <|
    sq_end) ?_
  clear hF hS; intro a w hF hS
  refine hK10 _ _ ?_
  clear hK10
  refine wp_seq_k ?_; intro K11 hK11
  refine regd mixed kQ hF hS (sq rfl (q_idx_arr ty263 ty220 rfl rfl (by omega)) <|
    sq rfl (q_ld_blk1 ty220 1 rfl rfl rfl rfl) <|
    sq rfl (q_call fn187 rfl (fun w hS => mix_ct _ _ _ _ (by omega) (by omega) (by omega) w ) (fun _ _ _ h => h)) <|
    sq rfl (q_idx_arr ty263 ty220 rfl rfl (by omega)) <|
    sq rfl (q_ld_blk1 ty220 1 rfl rfl rfl rfl) <|
    sq rfl (q_idx_arr ty263 ty220 rfl rfl (by omega)) <|
    sq rfl (q_ld_blk1 ty220 1 rfl rfl rfl rfl) <|
    sq rfl (q_andw rfl rfl) <|
    sq rfl (q_idx_arr ty263 ty220 rfl rfl (by omega)) <|
    sq rfl (q_ld_blk1 ty220 1 rfl rfl rfl rfl) <|
    sq rfl (q_idx_arr ty263 ty220 rfl rfl (by omega)) <|
    sq rfl (q_ld_blk1 ty220 1 rfl rfl rfl rfl) <|
    sq rfl (q_andw rfl rfl) <|
    sq rfl (q_xorw rfl rfl) <|
    sq rfl (q_idx_arr ty263 ty220 rfl rfl (by omega)) <|
    sq rfl (q_ld_blk1 ty220 1 rfl rfl rfl rfl) <|
    sq rfl (q_idx_arr ty263 ty220 rfl rfl (by omega)) <|
    sq rfl (q_ld_blk1 ty220 1 rfl rfl rfl rfl) <|
    sq rfl (q_andw rfl rfl) <|
    sq rfl (q_xorw rfl rfl) <|
    sq rfl (q_addw rfl rfl) <|
    sq rfl (q_assign rfl) <|
    sq_end) ?_
  clear hF hS; intro a w hF hS
  refine hK11 _ _ ?_
  clear hK11
  refine wp_seq_k ?_; intro K12 hK12
  refine regl ?_
  refine wpl_sq hF hS (sq rfl (q_idx_arr ty263 ty220 rfl rfl (by omega)) <|
    sq rfl (q_ld_blk1 ty220 1 rfl rfl rfl rfl) <|
    sq rfl (q_move rfl) <|
    sq rfl (q_addw rfl rfl) <|
    sq rfl (q_idx_arr ty263 ty220 rfl rfl (by omega)) <|
    sq rfl (q_ld_blk1 ty220 0 rfl rfl rfl rfl) <|
    sq rfl (q_idx_arr ty263 ty220 rfl rfl (by omega)) <|
    sq rfl (q_ld_blk1 ty220 0 rfl rfl rfl rfl) <|
    sq rfl (q_idx_arr ty263 ty220 rfl rfl (by omega)) <|
    sq rfl (q_ld_blk1 ty220 0 rfl rfl rfl rfl) <|
    sq rfl (q_buildA1 ty263 ty220 rfl rfl oQ rfl rfl) <|
    sq_end) ?_
  clear hF hS; intro a w hF hS
  refine wpl_ef hF hS rfl (ef_storeW ty263 0 rfl rfl rfl rfl bQ oQ bQ) ?_
  clear hF hS; rintro _ _ _ a w ⟨rfl, rfl, rfl⟩ hF hS
  replace hS : St _ [] [_, _, _, _, _] _ := hS
  refine wpList_nil ?_
  refine hK12 _ _ ?_
  clear hK12
  refine regl ?_
  refine wpl_sq hF hS (sq rfl (q_move rfl) <|
    sq rfl (q_move rfl) <|
    sq rfl (q_addw rfl rfl) <|
    sq rfl (q_idx_arr ty263 ty220 rfl rfl (by omega)) <|
    sq rfl (q_ld_blk1 ty220 1 rfl rfl rfl rfl) <|
    sq rfl (q_idx_arr ty263 ty220 rfl rfl (by omega)) <|
    sq rfl (q_ld_blk1 ty220 1 rfl rfl rfl rfl) <|
    sq rfl (q_idx_arr ty263 ty220 rfl rfl (by omega)) <|
    sq rfl (q_ld_blk1 ty220 1 rfl rfl rfl rfl) <|
    sq rfl (q_buildA1 ty263 ty220 rfl rfl oQ rfl rfl) <|
    sq_end) ?_
  clear hF hS; intro a w hF hS
  refine wpl_ef hF hS rfl (ef_storeW ty263 1 rfl rfl rfl rfl bQ oQ bQ) ?_
  clear hF hS; rintro _ _ _ a w ⟨rfl, rfl, rfl⟩ hF hS
  replace hS : St _ [] [_, _, _, _, _] _ := hS
  refine wpList_nil ?_
  refine hK8 _ _ ?_
  clear hK8
  refine reg hF hS (sq rfl (q_addi rfl rfl (by omega)) <|
    sq rfl (q_move rfl) <|
    sq_end) ?_
  clear hF hS; intro a w hF hS
  refine ⟨(i + 1), ?_, ?_, hF.sub ⟨rfl, rfl, rfl, rfl, rfl, rfl, rfl, trivial⟩, ?_⟩
  ·(try dsimp only); omega
  ·(try dsimp only); omega
  ·rw [Sha.rounds_succ _ _ i hi0]
   exact hS
 ·obtain rfl : i = 64 := by omega
  rw [show (64 : Int).toNat = 64 from rfl] at hS
  generalize hR : Sha.rounds (Sha.sch bb 64) (a0, a1, a2, a3, a4, a5, a6, a7) 64 = R at hS
  obtain ⟨r0, r1, r2, r3, r4, r5, r6, r7⟩ := R
  dsimp only at hS
  refine wp_exit ?_
  refine hK4 _ _ ?_
  clear hK4
  refine wp_seq_k ?_; intro K13 hK13
  refine wp_seq_k ?_; intro K14 hK14
  refine reg hF hS (sq rfl (q_move rfl) <|
    sq_end) ?_
  clear hF hS; intro a w hF hS
  refine hK14 _ _ ?_
  clear hK14
  refine wp_block ?_
  obtain ⟨hs0, hhs0, hS⟩ : ∃ h, h = _ ∧ St _ _ h _ := ⟨_, rfl, hS⟩
  refine wp_loopx (γ := Int) (0) (fun (i : Int) => [(94, vi i)]) [(2, _), (4, _), (6, _), (7, _)] (fun (i : Int) => (((hs0.set 4 (.blk b1 221 ((Sha.upd [a0, a1, a2, a3, a4, a5, a6, a7] [r0, r1, r2, r3, r4, r5, r6, r7] i.toNat).map vw))).set 1 (.blk b_2_6 263 ([r0, r1, r2, r3].map vw))).set 0 (.blk b_2_7 263 ([r4, r5, r6, r7].map vw)))) (fun (i : Int) => 0 ≤ i ∧ i ≤ 4) (fun (i : Int) => (4 - i).toNat) (hF.sub ⟨rfl, rfl, rfl, rfl, rfl, trivial⟩) (by subst hhs0; exact hS) (by simp) ?_
  clear hF hS; rintro i a w hfact hF hS
  subst hhs0; (try dsimp only at hfact); (try dsimp only at hF); (try dsimp only at hS)
  obtain ⟨hi0, hi1⟩ := hfact
  replace hS : St _ [] [_, _, _, _, _] _ := hS
  have hul := Sha.upd_len [a0, a1, a2, a3, a4, a5, a6, a7] [r0, r1, r2, r3, r4, r5, r6, r7] i.toNat
  refine wp_seq_k ?_; intro K15 hK15
  refine reg hF hS (sq rfl (q_lti rfl rfl) <|
    sq_end) ?_
  clear hF hS; intro a w hF hS
  refine hK15 _ _ ?_
  clear hK15
  refine wp_seq_k ?_; intro K16 hK16
  refine wp_ifd hF rfl (fun hc2 => ?_) (fun hc2 => ?_)
  ·refine wp_skip ?_
   refine hK16 _ _ ?_
   clear hK16
   refine wp_seq_k ?_; intro K17 hK17
   refine wp_block ?_
   refine wp_seq_k ?_; intro K18 hK18
   refine reg hF hS (sq rfl (q_move rfl) <|
     sq rfl (q_assign rfl) <|
     sq_end) ?_
   clear hF hS; intro a w hF hS
   refine hK18 _ _ ?_
   clear hK18
   refine wp_seq_k ?_; intro K19 hK19
   refine regt 8 mixed kQ hF hS (sq rfl (q_move rfl) <|
     sq rfl (q_idx_arr0 ty221 ty220 rfl rfl (by omega)) <|
     sq rfl (q_ld_blkM ty220 4 0 rfl rfl bQ rfl) <|
     sq rfl (q_move rfl) <|
     sq rfl (q_idx_arr0 ty263 ty220 rfl rfl (by omega)) <|
     sq rfl (q_ld_blkM ty220 1 0 rfl rfl bQ rfl) <|
     sq rfl (q_addw rfl rfl) <|
     sq rfl (q_idx_arr0 ty221 ty220 rfl rfl (by omega)) <|
     sq_end) ?_
   clear hF hS; intro a w hF hS
   refine wpl_ef hF hS rfl (ef_st_blkM ty220 4 rfl rfl rfl bQ rfl) ?_
   clear hF hS; rintro _ _ _ a w ⟨rfl, rfl, rfl⟩ hF hS
   replace hS : St _ [] [_, _, _, _, _] _ := hS
   refine wpList_nil ?_
   refine hK19 _ _ ?_
   clear hK19
   refine regt 9 mixed kQ hF hS (sq rfl (q_move rfl) <|
     sq rfl (q_addi rfl rfl (by omega)) <|
     sq rfl (q_idx_arr0 ty221 ty220 rfl rfl (by omega)) <|
     sq rfl (q_ld_blkM ty220 4 0 rfl rfl bQ rfl) <|
     sq rfl (q_move rfl) <|
     sq rfl (q_idx_arr0 ty263 ty220 rfl rfl (by omega)) <|
     sq rfl (q_ld_blkM ty220 0 0 rfl rfl bQ rfl) <|
     sq rfl (q_addw rfl rfl) <|
     sq rfl (q_idx_arr0 ty221 ty220 rfl rfl (by omega)) <|
     sq_end) ?_
   clear hF hS; intro a w hF hS
   refine wpl_ef hF hS rfl (ef_st_blkM ty220 4 rfl rfl rfl bQ rfl) ?_
   clear hF hS; rintro _ _ _ a w ⟨rfl, rfl, rfl⟩ hF hS
   replace hS : St _ [] [_, _, _, _, _] _ := hS
   refine wpList_nil ?_
   refine hK17 _ _ ?_
   clear hK17
   refine reg hF hS (sq rfl (q_addi rfl rfl (by omega)) <|
     sq rfl (q_move rfl) <|
     sq_end) ?_
   clear hF hS; intro a w hF hS
   refine ⟨(i + 1), ?_, ?_, hF.sub ⟨rfl, rfl, rfl, rfl, rfl, trivial⟩, ?_⟩
   ·(try dsimp only); omega
   ·(try dsimp only); omega
   ·have h4 : i = 0 ∨ i = 1 ∨ i = 2 ∨ i = 3 := by omega
    rcases h4 with rfl | rfl | rfl | rfl <;> exact hS
  ·obtain rfl : i = 4 := by omega
   have hul4 := Sha.upd_len [a0, a1, a2, a3, a4, a5, a6, a7] [r0, r1, r2, r3, r4, r5, r6, r7] 4
   have hcomp : Sha.comp [a0, a1, a2, a3, a4, a5, a6, a7] bb = Sha.upd [a0, a1, a2, a3, a4, a5, a6, a7] [r0, r1, r2, r3, r4, r5, r6, r7] 4 := by
    show List.zipWith (· + ·) [a0, a1, a2, a3, a4, a5, a6, a7] (Sha.l8 (Sha.rounds (Sha.sch bb 64) (a0, a1, a2, a3, a4, a5, a6, a7) 64)) = _
    rw [hR]
    rfl
   refine wp_exit ?_
   refine hK13 _ _ ?_
   clear hK13
   refine wp_seq_k ?_; intro K20 hK20
   refine regl ?_
   refine wpl_sq hF hS (sq rfl (q_ld_blkW ty221 4 rfl rfl bQ rfl) <|
     sq_end) ?_
   clear hF hS; intro a w hF hS
   refine wpl_ef hF hS rfl (ef_storeW ty221 3 rfl rfl rfl rfl bQ oQ bQ) ?_
   clear hF hS; rintro _ _ _ a w ⟨rfl, rfl, rfl⟩ hF hS
   replace hS : St _ [] [_, _, _, _, _] _ := hS
   refine wpList_nil ?_
   refine hK20 _ _ ?_
   clear hK20
   refine wp_ret ?_
   exact fn_ret (rs := [.cell 4 221]) rfl hF hS (vs := [_]) ⟨⟨_, _, _, _, _, _, _, rfl, List.mem_of_getElem? (i := 3) rfl, ty221, .inl ⟨rfl, bQ, rfl⟩⟩, trivial⟩ zQ zQ (by rw [hcomp]; rfl)
end Go.Proofs.YtngcjojijaknnaaGreatDoor
end

section
namespace Go.Proofs.YtngcjojijaknnaaGreatDoor
open Go.Fw
theorem ty9 : Tf Tryz.prog 9 .string 1 16 (Value.string ⟨(List.nil : List UInt8).toArray⟩) := ⟨Tryz.underlying9, by kernel_rfl⟩
theorem ty125 : Tf Tryz.prog 125 (.array 64 5) 64 64 (.agg (List.replicate 64 (Value.int .u8 0)).toArray) := ⟨Tryz.underlying125, by kernel_rfl⟩
theorem ty179 : Tf Tryz.prog 179 (.int .u64) 1 8 (Value.int .u64 0) := ⟨Tryz.underlying179, by kernel_rfl⟩
theorem ty223 : Tf Tryz.prog 223 (.struct #[⟨ "state", 221, 0, false, "", "culprit/hash", 0⟩, ⟨ "block", 125, 8, false, "", "culprit/hash", 32⟩, ⟨ "n", 179, 72, false, "", "culprit/hash", 96⟩]) 73 104 (.agg (List.replicate 8 (Value.int .u32 0) ++ List.replicate 64 (Value.int .u8 0) ++ [Value.int .u64 0]).toArray) := ⟨Tryz.underlying223, by kernel_rfl⟩
theorem fn167 : FnOk Tryz.prog 167 := ⟨_, Tryz.func167, rfl, by kernel_rfl⟩

/-- A stream's cells. -/
@[reducible] def stmC (s : Sha.Stm) : List Value := s.st.map vw ++ (s.bl.map vb ++ [vq s.n])

set_option maxRecDepth 4000 in
set_option maxHeartbeats 2000000 in
theorem begin_ct (w : World) : Ct Tryz.prog 142 [] w (fun r _ _ => r = .agg (stmC Sha.begin_).toArray) := by
 refine fn_enter Tryz.func142 rfl Tryz.ntmps142 (Nat.le_of_ble_eq_true rfl) fun a hF hS => ?_
 refine wp_seq_k ?_; intro K1 hK1
 refine regl ?_
 refine wpl_ef hF hS rfl (ef_allocA ty223) ?_
 clear hF hS; rintro _ _ _ a w ⟨b1, rfl, rfl, rfl⟩ hF hS
 refine wpList_nil ?_
 refine hK1 _ _ ?_
 clear hK1
 refine wp_seq_k ?_; intro K2 hK2
 refine regl ?_
 refine wpl_sq hF hS (sq rfl (q_buildA1 ty221 ty220 rfl rfl oQ rfl rfl) <|
   sq rfl (q_build rfl (run_build_struct ty223 (places := [(0, 8), (8, 64), (72, 1)]) kQ (cells := stmC Sha.begin_) kQ)) <|
   sq_end) ?_
 clear hF hS; intro a w hF hS
 refine wpl_ef hF hS rfl (ef_storeW ty223 0 rfl rfl rfl rfl bQ oQ bQ) ?_
 clear hF hS; rintro _ _ _ a w ⟨rfl, rfl, rfl⟩ hF hS
 (try dsimp only [segs] at hS)
 replace hS : St _ [] [_] _ := hS
 refine wpList_nil ?_
 refine hK2 _ _ ?_
 clear hK2
 refine wp_ret ?_
 exact fn_ret (rs := [.cell 0 223]) rfl hF hS (vs := [_]) ⟨⟨_, _, _, _, _, _, _, rfl, List.mem_of_getElem? (i := 0) rfl, ty223, .inl ⟨rfl, bQ, rfl⟩⟩, trivial⟩ zQ zQ (rfl)

set_option maxRecDepth 4000 in
set_option maxHeartbeats 2000000 in
theorem add_ct (s : Sha.Stm) (t : List UInt8) (h8 : s.st.length = 8) (h64 : s.bl.length = 64) (ht : t.length < 1099511627776) (w : World) {fz1 : Nat × Nat} {bt1 : TypeId} (hg1 : w.heap[1]? = some (.cells (Sha.kc.map vw).toArray bt1 fz1)) : Ct Tryz.prog 143 [.agg (stmC s).toArray, vs t] w (fun r _ _ => r = .agg (stmC (Sha.adds s t)).toArray) := by
 refine fn_enter Tryz.func143 rfl Tryz.ntmps143 (Nat.le_of_ble_eq_true rfl) fun a hF hS => ?_
 refine wp_seq_k ?_; intro K1 hK1
 refine regl ?_
 refine wpl_ef hF hS rfl (ef_boxA rfl) ?_
 clear hF hS; rintro _ _ _ a w ⟨b1, rfl, rfl, rfl⟩ hF hS
 refine wpl_ef hF hS rfl (ef_allocA ty223) ?_
 clear hF hS; rintro _ _ _ a w ⟨b2, rfl, rfl, rfl⟩ hF hS
 refine wpList_nil ?_
 refine hK1 _ _ ?_
 clear hK1
 refine wp_seq_k ?_; intro K2 hK2
 refine wp_block ?_
 obtain ⟨hs0, hhs0, hS⟩ : ∃ h, h = _ ∧ St _ _ h _ := ⟨_, rfl, hS⟩
 refine wp_loopx (γ := Sha.Stm × List UInt8) (s, t) (fun (gg : Sha.Stm × List UInt8) => match gg with | (s', t') => [(1, vs t')]) [(2, _), (4, _)] (fun (gg : Sha.Stm × List UInt8) => match gg with | (s', t') => (hs0.set 1 (.blk b1 223 (s'.st.map vw ++ (s'.bl.map vb ++ [vq s'.n]))))) (fun (gg : Sha.Stm × List UInt8) => match gg with | (s', t') => s'.st.length = 8 ∧ s'.bl.length = 64 ∧ t'.length < 1099511627776 ∧ Sha.adds s' t' = Sha.adds s t) (fun (gg : Sha.Stm × List UInt8) => match gg with | (s', t') => t'.length) (hF.sub ⟨rfl, rfl, rfl, trivial⟩) (by subst hhs0; exact hS) (by exact ⟨h8, h64, ht, rfl⟩) ?_
 clear hF hS; rintro ⟨s', t'⟩ a w hfact hF hS
 subst hhs0; (try dsimp only at hfact); (try dsimp only at hF); (try dsimp only at hS)
 obtain ⟨h8, h64, ht, hadd⟩ := hfact
 replace hS : St _ [] [_, _] _ := hS
 refine wp_seq_k ?_; intro K3 hK3
 refine wp_seq_k ?_; intro K4 hK4
 refine reg hF hS (sq rfl (q_move rfl) <|
   sq rfl (q_nes (q := []) rfl rfl) <|
   sq_end) ?_
 clear hF hS; intro a w hF hS
 refine hK4 _ _ ?_
 clear hK4
 refine wp_ifn hF rfl (fun hc1 => ?_) (fun hc1 => ?_)
 ·have htpos : 0 < t'.length := by
   cases t' with
   | nil => exact absurd rfl hc1
   | cons c t => simp
  refine wp_skip ?_
  refine hK3 _ _ ?_
  clear hK3
  refine wp_block ?_
  refine wp_seq_k ?_; intro K5 hK5
  refine reg hF hS (sq rfl (q_fieldAddr ty223 rfl rfl (s' := 0) kQ) <|
    sq rfl (q_ld_seg1 ty179 1 [_, _] rfl rfl bQ rfl) <|
    sq rfl (q_remq (q := 64) rfl rfl (by decide)) <|
    sq rfl (q_cv_qi ty179 ty3 rfl) <|
    sq rfl (q_assign rfl) <|
    sq_end) ?_
  clear hF hS; intro a w hF hS
  rw [Sha.at_sgn s'.n] at hF
  generalize hat : s'.n.toNat % 64 = q at hF
  have hq : q < 64 := by omega
  refine hK5 _ _ ?_
  clear hK5
  refine wp_seq_k ?_; intro K6 hK6
  refine regl ?_
  refine wpl_sq hF hS (sq rfl (q_fieldAddr ty223 rfl rfl (s' := 63) kQ) <|
    sq rfl (q_move rfl) <|
    sq rfl (q_sla_lo ty125 ty5 rfl rfl (by omega)) <|
    sq rfl (q_move rfl) <|
    sq_end) ?_
  clear hF hS; intro a w hF hS
  refine wpl_ef hF hS rfl (ef_copy_segM ty25 ty5 1 [_] rfl rfl rfl bQ bQ) ?_
  clear hF hS; rintro _ _ _ a w ⟨rfl, rfl, rfl⟩ hF hS
  (try dsimp only [segs] at hS)
  replace hS : St _ [] [_, _] _ := hS
  refine wpl_sq hF hS (sq rfl (q_assign rfl) <|
    sq_end) ?_
  clear hF hS; intro a w hF hS
  refine wpList_nil ?_
  simp only [Int.toNat_natCast] at hS hF
  obtain ⟨k, hk⟩ : ∃ k, k = min t'.length (64 - q) := ⟨_, rfl⟩
  rw [← hk] at hS
  rw [show min (t'.length : Int) ((64 - q : Nat) : Int) = (k : Int) by omega] at hF
  have hbl : (List.take q s'.bl ++ (List.take k t' ++ List.drop (q + k) s'.bl)).length = 64 := by simp; omega
  generalize hB : List.take q s'.bl ++ (List.take k t' ++ List.drop (q + k) s'.bl) = B at hS hbl
  refine hK6 _ _ ?_
  clear hK6
  refine wp_seq_k ?_; intro K7 hK7
  refine reg hF hS (sq rfl (q_move rfl) <|
    sq rfl (q_move rfl) <|
    sq rfl (q_sl_s_lo ty9 rfl rfl (by omega)) <|
    sq rfl (q_assign rfl) <|
    sq_end) ?_
  clear hF hS; intro a w hF hS
  simp only [Int.toNat_natCast] at hF
  refine hK7 _ _ ?_
  clear hK7
  refine wp_seq_k ?_; intro K8 hK8
  refine regl ?_
  refine wpl_sq hF hS (sq rfl (q_fieldAddr ty223 rfl rfl (s' := 0) kQ) <|
    sq rfl (q_ld_seg1 ty179 1 [_, _] rfl rfl bQ rfl) <|
    sq rfl (q_move rfl) <|
    sq rfl (q_cv_iq ty3 ty179 rfl) <|
    sq rfl (q_addq rfl rfl) <|
    sq rfl (q_fieldAddr ty223 rfl rfl (s' := 0) kQ) <|
    sq_end) ?_
  clear hF hS; intro a w hF hS
  refine wpl_ef hF hS rfl (ef_st_seg1 ty179 1 [_, _] rfl rfl rfl bQ rfl) ?_
  clear hF hS; rintro _ _ _ a w ⟨rfl, rfl, rfl⟩ hF hS
  (try dsimp only [segs] at hS)
  replace hS : St _ [] [_, _] _ := hS
  refine wpList_nil ?_
  refine hK8 _ _ ?_
  clear hK8
  refine wp_seq_k ?_; intro K9 hK9
  refine reg hF hS (sq rfl (q_move rfl) <|
    sq rfl (q_move rfl) <|
    sq rfl (q_addi rfl rfl (by omega)) <|
    sq rfl (q_eqi rfl rfl) <|
    sq_end) ?_
  clear hF hS; intro a w hF hS
  refine hK9 _ _ ?_
  clear hK9
  refine wp_ifd hF rfl (fun hc2 => ?_) (fun hc2 => ?_)
  ·have hcl := Sha.comp_len s'.st B h8
   refine regt 6 mixed kQ hF hS (sq rfl (q_fieldAddr ty223 rfl rfl (s' := 7) kQ) <|
     sq rfl (q_ld_seg ty221 1 [] rfl rfl bQ bQ rfl) <|
     sq rfl (q_fieldAddr ty223 rfl rfl (s' := 63) kQ) <|
     sq rfl (q_sla ty125 ty5 rfl) <|
     sq rfl (q_call fn167 rfl (fun w hS => compress_ct _ _ _ (by first | assumption | rfl | (simp; done) | (simp; omega)) (by first | assumption | omega | (simp; omega)) w (blk_segV hS 1 [_] rfl bQ (by omega) (by simp)) (hS.ext _ _ hg1)) (fun _ _ _ h => h)) <|
     sq rfl (q_fieldAddr ty223 rfl rfl (s' := 7) kQ) <|
     sq_end) ?_
   clear hF hS; intro a w hF hS
   refine wpl_ef hF hS rfl (ef_st_seg ty221 1 [] rfl rfl rfl bQ bQ bQ (fun _ => rfl)) ?_
   clear hF hS; rintro _ _ _ a w ⟨rfl, rfl, rfl⟩ hF hS
   (try dsimp only [segs] at hS)
   replace hS : St _ [] [_, _] _ := hS
   refine wpList_nil ?_
   refine ⟨(⟨Sha.comp s'.st B, B, s'.n + ofq (k : Int)⟩, t'.drop k), ?_, ?_, hF.sub ⟨rfl, rfl, rfl, trivial⟩, ?_⟩
   ·dsimp only; rw [List.length_drop]; omega
   ·exact ⟨Sha.comp_len _ _ h8, hbl, by rw [List.length_drop]; omega, by rw [← hadd, Sha.adds_chunk s' t' q k hat h64 (by omega) (by omega), if_pos (by omega), hB]⟩
   ·exact hS
  ·refine wp_skip ?_
   refine ⟨(⟨s'.st, B, s'.n + ofq (k : Int)⟩, t'.drop k), ?_, ?_, hF.sub ⟨rfl, rfl, rfl, trivial⟩, ?_⟩
   ·dsimp only; rw [List.length_drop]; omega
   ·exact ⟨h8, hbl, by rw [List.length_drop]; omega, by rw [← hadd, Sha.adds_chunk s' t' q k hat h64 (by omega) (by omega), if_neg (by omega), hB]⟩
   ·exact hS
 ·obtain rfl := hc1
  refine wp_exit ?_
  refine hK2 _ _ ?_
  clear hK2
  refine wp_seq_k ?_; intro K10 hK10
  refine regl ?_
  refine wpl_sq hF hS (sq rfl (q_ld_blkW ty223 1 rfl rfl bQ rfl) <|
    sq_end) ?_
  clear hF hS; intro a w hF hS
  refine wpl_ef hF hS rfl (ef_storeW ty223 0 rfl rfl rfl rfl bQ oQ bQ) ?_
  clear hF hS; rintro _ _ _ a w ⟨rfl, rfl, rfl⟩ hF hS
  (try dsimp only [segs] at hS)
  replace hS : St _ [] [_, _] _ := hS
  refine wpList_nil ?_
  refine hK10 _ _ ?_
  clear hK10
  refine wp_ret ?_
  exact fn_ret (rs := [.cell 4 223]) rfl hF hS (vs := [_]) ⟨⟨_, _, _, _, _, _, _, rfl, List.mem_of_getElem? (i := 0) rfl, ty223, .inl ⟨rfl, bQ, rfl⟩⟩, trivial⟩ zQ zQ (by rw [← hadd]; rfl)
end Go.Proofs.YtngcjojijaknnaaGreatDoor
end

section
namespace Go.Proofs.YtngcjojijaknnaaGreatDoor
open Go.Fw
theorem ty182 : Tf Tryz.prog 182 (.array 32 5) 32 32 (.agg (List.replicate 32 (Value.int .u8 0)).toArray) := ⟨Tryz.underlying182, by kernel_rfl⟩
theorem fn143 : FnOk Tryz.prog 143 := ⟨_, Tryz.func143, rfl, by kernel_rfl⟩

set_option maxRecDepth 4000 in
set_option maxHeartbeats 2000000 in
theorem ssum_ct (s : Sha.Stm) (h8 : s.st.length = 8) (h64 : s.bl.length = 64) (hn : s.n.toNat < 2199023255552) (w : World) {fz1 : Nat × Nat} {bt1 : TypeId} (hg1 : w.heap[1]? = some (.cells (Sha.kc.map vw).toArray bt1 fz1)) : Ct Tryz.prog 144 [.agg (stmC s).toArray] w (fun r _ _ => r = .agg ((Sha.fin s).map vb).toArray) := by
 refine fn_enter Tryz.func144 rfl Tryz.ntmps144 (Nat.le_of_ble_eq_true rfl) fun a hF hS => ?_
 have hsg : sgn s.n = (s.n.toNat : Int) := by unfold sgn; rw [if_pos (by omega)]
 have hz := Sha.zeros_lt s.n.toNat
 have hbe := Sha.be8_len (8 * s.n)
 refine wp_seq_k ?_; intro K1 hK1
 refine regl ?_
 refine wpl_ef hF hS rfl (ef_boxA rfl) ?_
 clear hF hS; rintro _ _ _ a w ⟨b1, rfl, rfl, rfl⟩ hF hS
 refine wpl_ef hF hS rfl (ef_allocA ty182) ?_
 clear hF hS; rintro _ _ _ a w ⟨b2, rfl, rfl, rfl⟩ hF hS
 rw [show List.replicate 32 (Value.int .u8 0) = (List.replicate 32 (0 : UInt8)).map vb from by rw [List.map_replicate] <;> rfl] at hS
 refine wpList_nil ?_
 refine hK1 _ _ ?_
 clear hK1
 refine wp_seq_k ?_; intro K2 hK2
 refine reg hF hS (sq rfl (q_fieldAddr ty223 rfl rfl (s' := 0) kQ) <|
   sq rfl (q_ld_seg1 ty179 1 [_, _] rfl rfl bQ rfl) <|
   sq rfl (q_mulq (p := 8) rfl rfl) <|
   sq rfl (q_assign rfl) <|
   sq_end) ?_
 clear hF hS; intro a w hF hS
 refine hK2 _ _ ?_
 clear hK2
 refine wp_seq_k ?_; intro K3 hK3
 refine regl ?_
 refine wpl_ef hF hS rfl (ef_bsliceA ty25 ty5 rfl rfl oQ (by decide) rfl rfl) ?_
 clear hF hS; rintro v3 _ _ a w ⟨rfl, rfl⟩ hF hS
 replace hS : St _ [] [_, _, _] _ := hS
 refine wpl_sq hF hS (sq rfl (q_assign rfl) <|
   sq_end) ?_
 clear hF hS; intro a w hF hS
 refine wpList_nil ?_
 refine hK3 _ _ ?_
 clear hK3
 refine wp_seq_k ?_; intro K4 hK4
 refine wp_block ?_
 obtain ⟨hs0, hhs0, hS⟩ : ∃ h, h = _ ∧ St _ _ h _ := ⟨_, rfl, hS⟩
 refine wp_loopx (γ := Value × Nat) (v3, 0) (fun (gg : Value × Nat) => match gg with | (v, j) => [(4, v)]) [(1, _), (2, _), (3, _)] (fun (gg : Value × Nat) => match gg with | (v, j) => (hs0.set 0 (.row v 5 1 (1 + j) ((128 :: List.replicate j (0 : UInt8)).map vb)))) (fun (gg : Value × Nat) => match gg with | (v, j) => j ≤ Sha.zerosFor s.n.toNat) (fun (gg : Value × Nat) => match gg with | (v, j) => Sha.zerosFor s.n.toNat - j) (hF.sub ⟨rfl, rfl, rfl, rfl, trivial⟩) (by subst hhs0; exact hS) (by exact Nat.zero_le _) ?_
 clear hF hS; rintro ⟨v, j⟩ a w hfact hF hS
 subst hhs0; (try dsimp only at hfact); (try dsimp only at hF); (try dsimp only at hS)
 have hj := hfact
 replace hS : St _ [] [_, _, _] _ := hS
 refine wp_seq_k ?_; intro K5 hK5
 refine wp_seq_k ?_; intro K6 hK6
 refine reg hF hS (sq rfl (q_fieldAddr ty223 rfl rfl (s' := 0) kQ) <|
   sq rfl (q_ld_seg1 ty179 2 [_, _] rfl rfl bQ rfl) <|
   sq rfl (q_cv_qi ty179 ty3 rfl) <|
   sq rfl (q_move rfl) <|
   sq rfl (q_len_row ty25 0 rfl rfl) <|
   sq rfl (q_addi rfl rfl (by omega)) <|
   sq rfl (q_remi rfl rfl (by omega)) <|
   sq rfl (q_nei rfl rfl) <|
   sq_end) ?_
 clear hF hS; intro a w hF hS
 refine hK6 _ _ ?_
 clear hK6
 refine wp_ifn hF rfl (fun hc1 => ?_) (fun hc1 => ?_)
 ·have hjl : j < Sha.zerosFor s.n.toNat := by
   have := Sha.zeros_at s.n.toNat
   rcases Nat.lt_or_ge j (Sha.zerosFor s.n.toNat) with h | h
   ·exact h
   ·obtain rfl : j = Sha.zerosFor s.n.toNat := by omega
    omega
  refine wp_skip ?_
  refine hK5 _ _ ?_
  clear hK5
  refine wp_block ?_
  refine regl ?_
  refine wpl_sq hF hS (sq rfl (q_move rfl) <|
    sq_end) ?_
  clear hF hS; intro a w hF hS
  refine wpl_ef hF hS rfl (ef_bsliceA ty25 ty5 rfl rfl oQ (by decide) rfl rfl) ?_
  clear hF hS; rintro v5 _ _ a w ⟨rfl, rfl⟩ hF hS
  replace hS : St _ [] [_, _, _, _] _ := hS
  refine wpl_ef hF hS rfl (ef_append ty25 ty5 1 rfl rfl rfl (src_row ty25 (k := 0) rfl oQ) bQ rfl (by decide)) ?_
  clear hF hS; rintro v7 _ _ a w ⟨rfl, rfl⟩ hF hS
  replace hS : St _ [] [_, _, _, _] _ := hS
  refine wpl_sq hF hS (sq rfl (q_assign rfl) <|
    sq_end) ?_
  clear hF hS; intro a w hF hS
  refine wpList_nil ?_
  replace hS := hS.keep zQ (sQ.n)
  refine ⟨(v7, j + 1), ?_, ?_, hF.sub ⟨rfl, rfl, rfl, rfl, trivial⟩, ?_⟩
  ·(try dsimp only); omega
  ·(try dsimp only); omega
  ·have e : (128 :: List.replicate j (0 : UInt8)).map vb ++ [Value.int .u8 0] = (128 :: List.replicate (j + 1) (0 : UInt8)).map vb := by rw [List.replicate_succ']; simp
   rw [e] at hS
   exact hS
 ·have hjz := Sha.zeros_un s.n.toNat j hj (by omega)
  subst hjz
  refine wp_exit ?_
  refine hK4 _ _ ?_
  clear hK4
  refine wp_seq_k ?_; intro K7 hK7
  refine wp_seq_k ?_; intro K8 hK8
  refine reg hF hS (sq rfl (q_move rfl) <|
    sq_end) ?_
  clear hF hS; intro a w hF hS
  refine hK8 _ _ ?_
  clear hK8
  refine wp_block ?_
  obtain ⟨hs0, hhs0, hS⟩ : ∃ h, h = _ ∧ St _ _ h _ := ⟨_, rfl, hS⟩
  refine wp_loopx (γ := Value × Int) (v, 0) (fun (gg : Value × Int) => match gg with | (v, i) => [(4, v), (23, vi i)]) [(1, _), (2, _), (3, _)] (fun (gg : Value × Int) => match gg with | (v, i) => (hs0.set 0 (.row v 5 1 (1 + Sha.zerosFor s.n.toNat + i.toNat) ((128 :: (List.replicate (Sha.zerosFor s.n.toNat) (0 : UInt8) ++ (Sha.be8 (8 * s.n)).take i.toNat)).map vb)))) (fun (gg : Value × Int) => match gg with | (v, i) => 0 ≤ i ∧ i ≤ 8) (fun (gg : Value × Int) => match gg with | (v, i) => (8 - i).toNat) (hF.sub ⟨rfl, rfl, rfl, rfl, rfl, trivial⟩) (by subst hhs0; simpa using hS) (by simp) ?_
  clear hF hS; rintro ⟨v, i⟩ a w hfact hF hS
  subst hhs0; (try dsimp only at hfact); (try dsimp only at hF); (try dsimp only at hS)
  obtain ⟨hi0, hi1⟩ := hfact
  replace hS : St _ [] [_, _, _] _ := hS
  refine wp_seq_k ?_; intro K9 hK9
  refine reg hF hS (sq rfl (q_lti rfl rfl) <|
    sq_end) ?_
  clear hF hS; intro a w hF hS
  refine hK9 _ _ ?_
  clear hK9
  refine wp_seq_k ?_; intro K10 hK10
  refine wp_ifd hF rfl (fun hc2 => ?_) (fun hc2 => ?_)
  ·refine wp_skip ?_
   refine hK10 _ _ ?_
   clear hK10
   refine wp_seq_k ?_; intro K11 hK11
   refine wp_block ?_
   refine wp_seq_k ?_; intro K12 hK12
   refine reg hF hS (sq rfl (q_move rfl) <|
     sq rfl (q_assign rfl) <|
     sq_end) ?_
   clear hF hS; intro a w hF hS
   refine hK12 _ _ ?_
   clear hK12
   refine regl ?_
   refine wpl_sq hF hS (sq rfl (q_move rfl) <|
     sq rfl (q_move rfl) <|
     sq rfl (q_move rfl) <|
     sq rfl (q_muli rfl rfl (by omega)) <|
     sq rfl (q_subi rfl rfl (by omega)) <|
     sq rfl (q_shrq rfl rfl (by omega)) <|
     sq rfl (q_cv_qb ty179 ty5 rfl) <|
     sq_end) ?_
   clear hF hS; intro a w hF hS
   refine wpl_ef hF hS rfl (ef_bsliceA ty25 ty5 rfl rfl oQ (by decide) rfl rfl) ?_
   clear hF hS; rintro v8 _ _ a w ⟨rfl, rfl⟩ hF hS
   replace hS : St _ [] [_, _, _, _] _ := hS
   refine wpl_ef hF hS rfl (ef_append ty25 ty5 1 rfl rfl rfl (src_row ty25 (k := 0) rfl oQ) bQ rfl (by decide)) ?_
   clear hF hS; rintro v10 _ _ a w ⟨rfl, rfl⟩ hF hS
   replace hS : St _ [] [_, _, _, _] _ := hS
   refine wpl_sq hF hS (sq rfl (q_assign rfl) <|
     sq_end) ?_
   clear hF hS; intro a w hF hS
   refine wpList_nil ?_
   refine hK11 _ _ ?_
   clear hK11
   refine reg hF hS (sq rfl (q_addi rfl rfl (by omega)) <|
     sq rfl (q_move rfl) <|
     sq_end) ?_
   clear hF hS; intro a w hF hS
   replace hS := hS.keep zQ (sQ.n)
   refine ⟨(v10, i + 1), ?_, ?_, hF.sub ⟨rfl, rfl, rfl, rfl, rfl, trivial⟩, ?_⟩
   ·(try dsimp only); omega
   ·(try dsimp only); omega
   ·rw [Sha.byte_q (8 * s.n) i ⟨hi0, by omega⟩] at hS
    have e : (128 :: (List.replicate (Sha.zerosFor s.n.toNat) (0 : UInt8) ++ (Sha.be8 (8 * s.n)).take i.toNat)).map vb ++ [vb (UInt8.ofNat ((8 * s.n).toNat / 2 ^ (56 - 8 * i.toNat)))] = (128 :: (List.replicate (Sha.zerosFor s.n.toNat) (0 : UInt8) ++ (Sha.be8 (8 * s.n)).take (i + 1).toNat)).map vb := by rw [show (i + 1).toNat = i.toNat + 1 by omega, Sha.be8_step _ _ (by omega)]; simp
    rw [e, show 1 + Sha.zerosFor s.n.toNat + i.toNat + 1 = 1 + Sha.zerosFor s.n.toNat + (i + 1).toNat by omega] at hS
    exact hS
  ·obtain rfl : i = 8 := by omega
   rw [show (8 : Int).toNat = 8 from rfl, List.take_of_length_le (by omega)] at hS
   have hpl := Sha.pad_len s.n
   have hal := Sha.adds_len s h8 h64 (Sha.pad s.n)
   change St _ [] [.row _ 5 1 _ ((Sha.pad s.n).map vb), _, _] _ at hS
   refine wp_exit ?_
   refine hK7 _ _ ?_
   clear hK7
   refine wp_seq_k ?_; intro K13 hK13
   refine regl ?_
   refine wpl_sq hF hS (sq rfl (q_ld_blkW ty223 2 rfl rfl bQ rfl) <|
     sq rfl (q_move rfl) <|
     sq rfl (q_b2s_row ty25 ty9 ty5 0 rfl rfl) <|
     sq rfl (q_call fn143 rfl (fun w hS => add_ct _ _ (by first | assumption | rfl | (simp only [*]; done)) (by first | assumption | rfl | (simp only [*]; done)) (by first | assumption | omega | (simp; done) | (simp; omega) | (simp only [*]; omega)) w (hS.ext _ _ hg1)) (fun _ _ _ h => h)) <|
     sq_end) ?_
   clear hF hS; intro a w hF hS
   refine wpl_ef hF hS rfl (ef_storeW ty223 2 rfl rfl rfl rfl bQ oQ bQ) ?_
   clear hF hS; rintro _ _ _ a w ⟨rfl, rfl, rfl⟩ hF hS
   (try dsimp only [segs] at hS)
   replace hS : St _ [] [_, _, _] _ := hS
   refine wpList_nil ?_
   refine hK13 _ _ ?_
   clear hK13
   refine wp_seq_k ?_; intro K14 hK14
   refine regl ?_
   refine wpl_ef hF hS rfl (ef_allocA ty182) ?_
   clear hF hS; rintro _ _ _ a w ⟨b11, rfl, rfl, rfl⟩ hF hS
   rw [show List.replicate 32 (Value.int .u8 0) = (List.replicate 32 (0 : UInt8)).map vb from by rw [List.map_replicate] <;> rfl] at hS
   refine wpList_nil ?_
   refine hK14 _ _ ?_
   clear hK14
   refine wp_seq_k ?_; intro K15 hK15
   refine wp_seq_k ?_; intro K16 hK16
   refine reg hF hS (sq rfl (q_move rfl) <|
     sq_end) ?_
   clear hF hS; intro a w hF hS
   refine hK16 _ _ ?_
   clear hK16
   refine wp_block ?_
   obtain ⟨hs0, hhs0, hS⟩ : ∃ h, h = _ ∧ St _ _ h _ := ⟨_, rfl, hS⟩
   refine wp_loopx (γ := Int) (0) (fun (i : Int) => [(40, vi i)]) [(1, _), (2, _), (6, _)] (fun (i : Int) => (hs0.set 0 (.blk b11 182 ((Sha.outW (Sha.adds s (Sha.pad s.n)).st i.toNat).map vb)))) (fun (i : Int) => 0 ≤ i ∧ i ≤ 32) (fun (i : Int) => (32 - i).toNat) (hF.sub ⟨rfl, rfl, rfl, rfl, trivial⟩) (by subst hhs0; exact hS) (by simp) ?_
   clear hF hS; rintro i a w hfact hF hS
   subst hhs0; (try dsimp only at hfact); (try dsimp only at hF); (try dsimp only at hS)
   obtain ⟨hi0, hi1⟩ := hfact
   replace hS : St _ [] [_, _, _, _] _ := hS
   have hol := Sha.outW_len (Sha.adds s (Sha.pad s.n)).st i.toNat
   refine wp_seq_k ?_; intro K17 hK17
   refine reg hF hS (sq rfl (q_lti rfl rfl) <|
     sq_end) ?_
   clear hF hS; intro a w hF hS
   refine hK17 _ _ ?_
   clear hK17
   refine wp_seq_k ?_; intro K18 hK18
   refine wp_ifd hF rfl (fun hc3 => ?_) (fun hc3 => ?_)
   ·refine wp_skip ?_
    refine hK18 _ _ ?_
    clear hK18
    refine wp_seq_k ?_; intro K19 hK19
    refine wp_block ?_
    refine wp_seq_k ?_; intro K20 hK20
    refine reg hF hS (sq rfl (q_move rfl) <|
      sq rfl (q_assign rfl) <|
      sq_end) ?_
    clear hF hS; intro a w hF hS
    refine hK20 _ _ ?_
    clear hK20
    refine regl ?_
    refine wpl_sq hF hS (sq rfl (q_move rfl) <|
      sq rfl (q_move rfl) <|
      sq rfl (q_quoi rfl rfl (by omega)) <|
      sq rfl (q_fieldAddr ty223 rfl rfl (s' := 7) kQ) <|
      sq rfl (q_idx_arr ty221 ty220 rfl rfl (by omega)) <|
      sq rfl (q_ld_segM ty220 3 [] (0 : UInt32) rfl rfl bQ bQ rfl) <|
      sq rfl (q_move rfl) <|
      sq rfl (q_remi rfl rfl (by omega)) <|
      sq rfl (q_muli rfl rfl (by omega)) <|
      sq rfl (q_subi rfl rfl (by omega)) <|
      sq rfl (q_shrw rfl rfl (by omega)) <|
      sq rfl (q_cv_wb ty220 ty5 rfl) <|
      sq rfl (q_idx_arr0 ty182 ty5 rfl rfl (by omega)) <|
      sq_end) ?_
    clear hF hS; intro a w hF hS
    refine wpl_ef hF hS rfl (ef_st_blkM ty5 0 rfl rfl rfl bQ rfl) ?_
    clear hF hS; rintro _ _ _ a w ⟨rfl, rfl, rfl⟩ hF hS
    replace hS : St _ [] [_, _, _, _] _ := hS
    refine wpList_nil ?_
    refine hK19 _ _ ?_
    clear hK19
    refine reg hF hS (sq rfl (q_addi rfl rfl (by omega)) <|
      sq rfl (q_move rfl) <|
      sq_end) ?_
    clear hF hS; intro a w hF hS
    refine ⟨(i + 1), ?_, ?_, hF.sub ⟨rfl, rfl, rfl, rfl, trivial⟩, ?_⟩
    ·(try dsimp only); omega
    ·(try dsimp only); omega
    ·rw [Sha.byte_w _ i ⟨hi0, by omega⟩, Sha.outW_step _ _ (by omega), show i.toNat + 1 = (i + 1).toNat by omega] at hS
     exact hS
   ·obtain rfl : i = 32 := by omega
    rw [show (32 : Int).toNat = 32 from rfl, Sha.outW_32] at hS
    have hob := Sha.outB_len (Sha.adds s (Sha.pad s.n)).st
    refine wp_exit ?_
    refine hK15 _ _ ?_
    clear hK15
    refine wp_seq_k ?_; intro K21 hK21
    refine regl ?_
    refine wpl_sq hF hS (sq rfl (q_ld_blkW ty182 0 rfl rfl bQ rfl) <|
      sq_end) ?_
    clear hF hS; intro a w hF hS
    refine wpl_ef hF hS rfl (ef_storeW ty182 2 rfl rfl rfl rfl bQ oQ bQ) ?_
    clear hF hS; rintro _ _ _ a w ⟨rfl, rfl, rfl⟩ hF hS
    replace hS : St _ [] [_, _, _, _] _ := hS
    refine wpList_nil ?_
    refine hK21 _ _ ?_
    clear hK21
    refine wp_ret ?_
    exact fn_ret (rs := [.cell 2 182]) rfl hF hS (vs := [_]) ⟨⟨_, _, _, _, _, _, _, rfl, List.mem_of_getElem? (i := 2) rfl, ty182, .inl ⟨rfl, bQ, rfl⟩⟩, trivial⟩ zQ zQ (rfl)
end Go.Proofs.YtngcjojijaknnaaGreatDoor
end

section
namespace Go.Proofs.YtngcjojijaknnaaGreatDoor
open Go.Fw
theorem fn142 : FnOk Tryz.prog 142 := ⟨_, Tryz.func142, rfl, by kernel_rfl⟩
theorem fn144 : FnOk Tryz.prog 144 := ⟨_, Tryz.func144, rfl, by kernel_rfl⟩

set_option maxRecDepth 4000 in
set_option maxHeartbeats 2000000 in
theorem sum_ct (v : Value) (xs : List UInt8) (hx : xs.length < 1099511627776) (w : World) (hb : Sl encB (ph w) v xs) {fz1 : Nat × Nat} {bt1 : TypeId} (hg1 : w.heap[1]? = some (.cells (Sha.kc.map vw).toArray bt1 fz1)) : Ct Tryz.prog 101 [v] w (fun r _ _ => r = .agg ((Sha.sum xs).map vb).toArray) := by
 refine fn_enter Tryz.func101 rfl Tryz.ntmps101 (Nat.le_of_ble_eq_true rfl) fun a hF hS => ?_
 have hal := Sha.adds_len Sha.begin_ Sha.begin_8 Sha.begin_64 xs
 have han := Sha.adds_nlt Sha.begin_ xs (by rw [Sha.begin_n]; omega)
 rw [Sha.begin_n] at han
 have hsl := Sha.sum_len xs
 have hfl := Sha.fin_len (Sha.adds Sha.begin_ xs)
 refine wp_seq_k ?_; intro K1 hK1
 refine regl ?_
 refine wpl_ef hF hS rfl (ef_allocA ty182) ?_
 clear hF hS; rintro _ _ _ a w ⟨b1, rfl, rfl, rfl⟩ hF hS
 rw [show List.replicate 32 (Value.int .u8 0) = (List.replicate 32 (0 : UInt8)).map vb from by rw [List.map_replicate] <;> rfl] at hS
 refine wpList_nil ?_
 refine hK1 _ _ ?_
 clear hK1
 refine wp_seq_k ?_; intro K2 hK2
 refine regt 5 mixed kQ hF hS (sq rfl (q_call fn142 rfl (fun w hS => begin_ct w ) (fun _ _ _ h => h)) <|
   sq rfl (q_move rfl) <|
   sq rfl (q_b2s_sl ty25 ty9 ty5 hb zin0 rfl) <|
   sq rfl (q_call fn143 rfl (fun w hS => add_ct _ _ (by first | assumption | rfl | (simp only [*]; done)) (by first | assumption | rfl | (simp only [*]; done)) (by first | assumption | omega | (simp; done) | (simp; omega) | (simp only [*]; omega)) w (hS.ext _ _ hg1)) (fun _ _ _ h => h)) <|
   sq rfl (q_call fn144 rfl (fun w hS => ssum_ct _ (by first | assumption | (simp [*]; done)) (by first | assumption | (simp [*]; done)) (by first | assumption | omega) w (hS.ext _ _ hg1)) (fun _ _ _ h => h)) <|
   sq_end) ?_
 clear hF hS; intro a w hF hS
 refine wpl_ef hF hS rfl (ef_storeW ty182 0 rfl rfl rfl rfl bQ oQ bQ) ?_
 clear hF hS; rintro _ _ _ a w ⟨rfl, rfl, rfl⟩ hF hS
 replace hS : St _ [] [_] _ := hS
 refine wpList_nil ?_
 refine hK2 _ _ ?_
 clear hK2
 refine wp_ret ?_
 exact fn_ret (rs := [.cell 2 182]) rfl hF hS (vs := [_]) ⟨⟨_, _, _, _, _, _, _, rfl, List.mem_of_getElem? (i := 0) rfl, ty182, .inl ⟨rfl, bQ, rfl⟩⟩, trivial⟩ zQ zQ (rfl)
end Go.Proofs.YtngcjojijaknnaaGreatDoor
end

section
namespace Go.Proofs.YtngcjojijaknnaaGreatDoor
open Go.Fw


attribute [local irreducible] Sha.adds Sha.fin Sha.sum Sha.padK Sha.comp Sha.mac Sha.keyOf Sha.sch Sha.rounds Sha.outB
end Go.Proofs.YtngcjojijaknnaaGreatDoor
end

section
namespace Go.Proofs.YtngcjojijaknnaaGreatDoor
open Go.Fw
theorem fn57 : FnOk Tryz.prog 57 := ⟨_, Tryz.func57, rfl, by kernel_rfl⟩

set_option maxRecDepth 4000 in
set_option maxHeartbeats 2000000 in
theorem wint_ct (n : Int) (w : World) : Ct Tryz.prog 57 [vi n] w (fun v zs hs => zs = [] ∧ hs = [.row v 5 1 (Wi.int n).length ((Wi.int n).map vb)]) := by
 refine fn_enter Tryz.func57 rfl Tryz.ntmps57 (Nat.le_of_ble_eq_true rfl) fun a hF hS => ?_
 refine wp_seq_k ?_; intro K1 hK1
 refine reg hF hS (sq rfl (q_assign rfl) <|
   sq_end) ?_
 clear hF hS; intro a w hF hS
 refine hK1 _ _ ?_
 clear hK1
 refine wp_scope_straight ?_
 refine wp_seq_k ?_; intro K2 hK2
 refine reg hF hS (sq rfl (q_move rfl) <|
   sq rfl (q_cv_iq ty3 ty179 rfl) <|
   sq rfl (q_assign rfl) <|
   sq rfl (q_assign rfl) <|
   sq_end) ?_
 clear hF hS; intro a w hF hS
 refine hK2 _ _ ?_
 clear hK2
 obtain ⟨hs0, hhs0, hS⟩ : ∃ h, h = _ ∧ St _ _ h _ := ⟨_, rfl, hS⟩
 refine wp_cutx (γ := UInt64 × UInt8) (fun (gg : UInt64 × UInt8) => match gg with | (m, fl) => [(3, vq m), (4, vb fl)]) [] (fun (gg : UInt64 × UInt8) => match gg with | (m, fl) => hs0) (fun (gg : UInt64 × UInt8) => match gg with | (m, fl) => m = Wi.mOf n ∧ fl = Wi.flOf n) (hF.sub trivial) hS ?_ ?_
 ·subst hhs0
  refine wp_seq_k ?_; intro K3 hK3
  refine reg hF hS (sq rfl (q_move rfl) <|
    sq rfl (q_lti rfl rfl) <|
    sq_end) ?_
  clear hF hS; intro a w hF hS
  refine hK3 _ _ ?_
  clear hK3
  refine wp_ifd hF rfl (fun hc1 => ?_) (fun hc1 => ?_)
  ·refine reg hF hS (sq rfl (q_move rfl) <|
     sq rfl (q_notq rfl) <|
     sq rfl (q_assign rfl) <|
     sq rfl (q_assign rfl) <|
     sq_end) ?_
   clear hF hS; intro a w hF hS
   refine ⟨(~~~(ofq n), 255), ?_, hF.sub ⟨rfl, rfl, trivial⟩, ?_⟩
   ·exact ⟨by unfold Wi.mOf; rw [if_pos hc1], by unfold Wi.flOf; rw [if_pos hc1]⟩
   ·exact hS
  ·refine wp_skip ?_
   refine ⟨(ofq n, 0), ?_, hF.sub ⟨rfl, rfl, trivial⟩, ?_⟩
   ·exact ⟨by unfold Wi.mOf; rw [if_neg hc1], by unfold Wi.flOf; rw [if_neg hc1]⟩
   ·exact hS
 clear hF hS; rintro ⟨m, fl⟩ a w hfact hF hS
 subst hhs0; (try dsimp only at hfact); (try dsimp only at hF); (try dsimp only at hS)
 obtain ⟨hm, hfl⟩ := hfact
 replace hS : St _ [] [] _ := hS
 refine wp_seq_k ?_; intro K4 hK4
 refine reg hF hS (sq rfl (q_assign rfl) <|
   sq_end) ?_
 clear hF hS; intro a w hF hS
 refine hK4 _ _ ?_
 clear hK4
 refine wp_seq_k ?_; intro K5 hK5
 refine wp_label ?_
 refine hK5 _ _ ?_
 clear hK5
 obtain ⟨hs0, hhs0, hS⟩ : ∃ h, h = _ ∧ St _ _ h _ := ⟨_, rfl, hS⟩
 refine wp_cutx (γ := Nat) (fun (k : Nat) => [(5, vi (k : Int))]) [(3, _), (4, _)] (fun (k : Nat) => hs0) (fun (k : Nat) => k ≤ 8 ∧ k = Wi.nb m) (hF.sub ⟨rfl, rfl, trivial⟩) hS ?_ ?_
 ·subst hhs0
  refine wp_block ?_
  obtain ⟨hs0, hhs0, hS⟩ : ∃ h, h = _ ∧ St _ _ h _ := ⟨_, rfl, hS⟩
  refine wp_loopx (γ := Nat) (8) (fun (k : Nat) => [(5, vi (k : Int))]) [(3, _), (4, _)] (fun (k : Nat) => hs0) (fun (k : Nat) => k ≤ 8 ∧ Wi.nbF m k = Wi.nb m) (fun (k : Nat) => k) (hF.sub ⟨rfl, rfl, rfl, trivial⟩) (by subst hhs0; exact hS) (by exact ⟨Nat.le_refl _, rfl⟩) ?_
  clear hF hS; rintro k a w hfact hF hS
  subst hhs0; (try dsimp only at hfact); (try dsimp only at hF); (try dsimp only at hS)
  obtain ⟨hk8, hnb⟩ := hfact
  replace hS : St _ [] [] _ := hS
  refine wp_seq_k ?_; intro K6 hK6
  refine wp_seq_k ?_; intro K7 hK7
  refine reg hF hS (sq rfl (q_move rfl) <|
    sq rfl (q_gti rfl rfl) <|
    sq_end) ?_
  clear hF hS; intro a w hF hS
  refine hK7 _ _ ?_
  clear hK7
  refine wp_ifd hF rfl (fun hc2 => ?_) (fun hc2 => ?_)
  ·obtain ⟨k, rfl⟩ : ∃ j, k = j + 1 := ⟨k - 1, by omega⟩
   refine wp_skip ?_
   refine hK6 _ _ ?_
   clear hK6
   refine wp_block ?_
   refine wp_seq_k ?_; intro K8 hK8
   refine wp_seq_k ?_; intro K9 hK9
   refine reg hF hS (sq rfl (q_move rfl) <|
     sq rfl (q_move rfl) <|
     sq rfl (q_subi rfl rfl (by omega)) <|
     sq rfl (q_muli rfl rfl (by omega)) <|
     sq rfl (q_shrq rfl rfl (by omega)) <|
     sq rfl (q_gtq (q := 0) rfl rfl) <|
     sq_end) ?_
   clear hF hS; intro a w hF hS
   refine hK9 _ _ ?_
   clear hK9
   refine wp_ifd hF rfl (fun hc3 => ?_) (fun hc3 => ?_)
   ·rw [show ((k + 1 : Nat) : Int) - 1 = (k : Int) by omega, Wi.top_q m k (by omega)] at hc3
    refine wp_exit ?_
    refine ⟨(k + 1), ?_, hF.sub ⟨rfl, rfl, rfl, trivial⟩, ?_⟩
    ·refine ⟨hk8, ?_⟩
     rw [← hnb]
     unfold Wi.nbF
     rw [if_neg hc3]
    ·exact hS
   ·rw [show ((k + 1 : Nat) : Int) - 1 = (k : Int) by omega, Wi.top_q m k (by omega)] at hc3
    refine wp_skip ?_
    refine hK8 _ _ ?_
    clear hK8
    refine reg hF hS (sq rfl (q_move rfl) <|
      sq rfl (q_subi rfl rfl (by omega)) <|
      sq rfl (q_assign rfl) <|
      sq_end) ?_
    clear hF hS; intro a w hF hS
    rw [show ((k + 1 : Nat) : Int) - 1 = (k : Int) by omega] at hF
    refine ⟨(k), ?_, ?_, hF.sub ⟨rfl, rfl, rfl, trivial⟩, ?_⟩
    ·(try dsimp only); omega
    ·refine ⟨by omega, ?_⟩
     rw [← hnb]
     conv => rhs; unfold Wi.nbF
     rw [if_pos (Classical.not_not.1 hc3)]
    ·exact hS
  ·refine wp_exit ?_
   refine ⟨(k), ?_, hF.sub ⟨rfl, rfl, rfl, trivial⟩, ?_⟩
   ·refine ⟨hk8, ?_⟩
    obtain rfl : k = 0 := by omega
    exact hnb
   ·exact hS
 clear hF hS; rintro k a w hfact hF hS
 subst hhs0; (try dsimp only at hfact); (try dsimp only at hF); (try dsimp only at hS)
 obtain ⟨hk8, hkn⟩ := hfact
 replace hS : St _ [] [] _ := hS
 refine wp_seq_k ?_; intro K10 hK10
 refine regl ?_
 refine wpl_sq hF hS (sq rfl (q_move rfl) <|
   sq rfl (q_addi rfl rfl (by omega)) <|
   sq rfl (q_cv_ib ty3 ty5 rfl) <|
   sq rfl (q_move rfl) <|
   sq rfl (q_xorb rfl rfl) <|
   sq_end) ?_
 clear hF hS; intro a w hF hS
 refine wpl_ef hF hS rfl (ef_bsliceA ty25 ty5 rfl rfl oQ (by decide) rfl rfl) ?_
 clear hF hS; rintro v1 _ _ a w ⟨rfl, rfl⟩ hF hS
 replace hS : St _ [] [_] _ := hS
 refine wpl_sq hF hS (sq rfl (q_assign rfl) <|
   sq_end) ?_
 clear hF hS; intro a w hF hS
 refine wpList_nil ?_
 refine hK10 _ _ ?_
 clear hK10
 refine wp_seq_k ?_; intro K11 hK11
 refine wp_seq_k ?_; intro K12 hK12
 refine reg hF hS (sq rfl (q_move rfl) <|
   sq rfl (q_subi rfl rfl (by omega)) <|
   sq rfl (q_assign rfl) <|
   sq_end) ?_
 clear hF hS; intro a w hF hS
 refine hK12 _ _ ?_
 clear hK12
 refine wp_block ?_
 obtain ⟨hs0, hhs0, hS⟩ : ∃ h, h = _ ∧ St _ _ h _ := ⟨_, rfl, hS⟩
 refine wp_loopx (γ := Value × Nat) (v1, k) (fun (gg : Value × Nat) => match gg with | (v, i) => [(6, v), (7, vi ((i : Int) - 1))]) [(3, _), (4, _)] (fun (gg : Value × Nat) => match gg with | (v, i) => (hs0.set 0 (.row v 5 1 (1 + (k - i)) (((UInt8.ofNat (128 + k) ^^^ fl) :: Wi.digsFrom m fl k i).map vb)))) (fun (gg : Value × Nat) => match gg with | (v, i) => i ≤ k) (fun (gg : Value × Nat) => match gg with | (v, i) => i) (hF.sub ⟨rfl, rfl, rfl, rfl, trivial⟩) (by subst hhs0; rw [show (128 : Int) + (k : Int) = ((128 + k : Nat) : Int) by omega, Wi.ofb_nat] at hS; simpa [Wi.digsFrom] using hS) (by exact Nat.le_refl _) ?_
 clear hF hS; rintro ⟨v, i⟩ a w hfact hF hS
 subst hhs0; (try dsimp only at hfact); (try dsimp only at hF); (try dsimp only at hS)
 have hik := hfact
 replace hS : St _ [] [_] _ := hS
 refine wp_seq_k ?_; intro K13 hK13
 refine wp_seq_k ?_; intro K14 hK14
 refine reg hF hS (sq rfl (q_move rfl) <|
   sq rfl (q_gei rfl rfl) <|
   sq_end) ?_
 clear hF hS; intro a w hF hS
 refine hK14 _ _ ?_
 clear hK14
 refine wp_ifd hF rfl (fun hc4 => ?_) (fun hc4 => ?_)
 ·refine wp_skip ?_
  refine hK13 _ _ ?_
  clear hK13
  refine wp_seq_k ?_; intro K15 hK15
  refine wp_block ?_
  refine regl ?_
  refine wpl_sq hF hS (sq rfl (q_move rfl) <|
    sq rfl (q_move rfl) <|
    sq rfl (q_move rfl) <|
    sq rfl (q_muli rfl rfl (by omega)) <|
    sq rfl (q_shrq rfl rfl (by omega)) <|
    sq rfl (q_cv_qb ty179 ty5 rfl) <|
    sq rfl (q_move rfl) <|
    sq rfl (q_xorb rfl rfl) <|
    sq_end) ?_
  clear hF hS; intro a w hF hS
  refine wpl_ef hF hS rfl (ef_bsliceA ty25 ty5 rfl rfl oQ (by decide) rfl rfl) ?_
  clear hF hS; rintro v3 _ _ a w ⟨rfl, rfl⟩ hF hS
  replace hS : St _ [] [_, _] _ := hS
  refine wpl_ef hF hS rfl (ef_append ty25 ty5 1 rfl rfl rfl (src_row ty25 (k := 0) rfl oQ) bQ rfl (by decide)) ?_
  clear hF hS; rintro v5 _ _ a w ⟨rfl, rfl⟩ hF hS
  replace hS : St _ [] [_, _] _ := hS
  refine wpl_sq hF hS (sq rfl (q_assign rfl) <|
    sq_end) ?_
  clear hF hS; intro a w hF hS
  refine wpList_nil ?_
  refine hK15 _ _ ?_
  clear hK15
  refine reg hF hS (sq rfl (q_move rfl) <|
    sq rfl (q_subi rfl rfl (by omega)) <|
    sq rfl (q_assign rfl) <|
    sq_end) ?_
  clear hF hS; intro a w hF hS
  rw [show (i : Int) - 1 - 1 = ((i - 1 : Nat) : Int) - 1 by omega] at hF
  replace hS := hS.keep zQ (sQ.n)
  refine ⟨(v5, i - 1), ?_, ?_, hF.sub ⟨rfl, rfl, rfl, rfl, trivial⟩, ?_⟩
  ·(try dsimp only); omega
  ·(try dsimp only); omega
  ·rw [Wi.digit_q m fl ((i : Int) - 1) (by omega), show ((i : Int) - 1).toNat = i - 1 by omega] at hS
   have e : ((UInt8.ofNat (128 + k) ^^^ fl) :: Wi.digsFrom m fl k i).map vb ++ [vb (Wi.digit m fl (i - 1))] = ((UInt8.ofNat (128 + k) ^^^ fl) :: Wi.digsFrom m fl k (i - 1)).map vb := by rw [← Wi.digs_step m fl k (i - 1) (by omega), show i - 1 + 1 = i by omega]; simp
   rw [e, show 1 + (k - i) + 1 = 1 + (k - (i - 1)) by omega] at hS
   exact hS
 ·obtain rfl : i = 0 := by omega
  have e : (UInt8.ofNat (128 + k) ^^^ fl) :: Wi.digsFrom m fl k 0 = Wi.int n := by rw [hm, hfl, hkn, hm]; rfl
  have el : 1 + (k - 0) = (Wi.int n).length := by rw [← e]; simp [Wi.digs_len]; omega
  rw [e, el] at hS
  refine wp_exit ?_
  refine hK11 _ _ ?_
  clear hK11
  refine wp_seq_k ?_; intro K16 hK16
  refine reg hF hS (sq rfl (q_move rfl) <|
    sq rfl (q_assign rfl) <|
    sq_end) ?_
  clear hF hS; intro a w hF hS
  refine hK16 _ _ ?_
  clear hK16
  refine wp_ret ?_
  exact fn_ret (rs := [.tmp 2]) rfl hF hS (vs := [_]) ⟨rfl, trivial⟩ zQ sQ ⟨rfl, rfl⟩

set_option maxRecDepth 4000 in
set_option maxHeartbeats 2000000 in
theorem wbytes_ct (t : List UInt8) (ht : t.length < 1099511627776) (w : World) : Ct Tryz.prog 58 [vs t] w (fun v zs hs => zs = [] ∧ hs = [.row v 5 1 (Wi.bytes t).length ((Wi.bytes t).map vb)]) := by
 refine fn_enter Tryz.func58 rfl Tryz.ntmps58 (Nat.le_of_ble_eq_true rfl) fun a hF hS => ?_
 have hil := Wi.int_len9 t.length
 refine wp_seq_k ?_; intro K1 hK1
 refine reg hF hS (sq rfl (q_assign rfl) <|
   sq_end) ?_
 clear hF hS; intro a w hF hS
 refine hK1 _ _ ?_
 clear hK1
 refine wp_seq_k ?_; intro K2 hK2
 refine regl ?_
 refine wpl_sq hF hS (sq rfl (q_move rfl) <|
   sq rfl (q_len_s ty9 rfl) <|
   sq_end) ?_
 clear hF hS; intro a w hF hS
 refine wpl_ef hF hS rfl (ef_call fn57 rfl (fun w hS => wint_ct _ w )) ?_
 clear hF hS; rintro v1 _ _ a w ⟨_, _, rfl, rfl, rfl, rfl⟩ hF hS
 replace hS : St _ [] [_] _ := hS
 refine wpl_sq hF hS (sq rfl (q_move rfl) <|
   sq_end) ?_
 clear hF hS; intro a w hF hS
 refine wpl_ef hF hS rfl (ef_append ty25 ty5 0 rfl rfl rfl (src_str ty9 _) bQ rfl (by decide)) ?_
 clear hF hS; rintro v3 _ _ a w ⟨rfl, rfl⟩ hF hS
 replace hS : St _ [] [_] _ := hS
 refine wpl_sq hF hS (sq rfl (q_assign rfl) <|
   sq_end) ?_
 clear hF hS; intro a w hF hS
 refine wpList_nil ?_
 refine hK2 _ _ ?_
 clear hK2
 refine wp_ret ?_
 rw [← List.map_append, show (Wi.int t.length).length + t.length = (Wi.bytes t).length by simp [Wi.bytes]] at hS
 exact fn_ret (rs := [.tmp 2]) rfl hF hS (vs := [_]) ⟨rfl, trivial⟩ zQ sQ ⟨rfl, rfl⟩
end Go.Proofs.YtngcjojijaknnaaGreatDoor
end

section
namespace Go.Proofs.YtngcjojijaknnaaGreatDoor
open Go.Fw
theorem ty40 : Tf Tryz.prog 40 (.slice 9) 1 24 (Value.slice none 0 0) := ⟨Tryz.underlying40, by kernel_rfl⟩
theorem ty62 : Tf Tryz.prog 62 (.array 16 5) 16 16 (.agg (List.replicate 16 (Value.int .u8 0)).toArray) := ⟨Tryz.underlying62, by kernel_rfl⟩
theorem fn58 : FnOk Tryz.prog 58 := ⟨_, Tryz.func58, rfl, by kernel_rfl⟩

@[simp] theorem stmC_len (s : Sha.Stm) : (stmC s).length = s.st.length + (s.bl.length + 1) := by simp [stmC]

attribute [local irreducible] Sha.adds Sha.fin Sha.sum Sha.comp Sha.sch Sha.rounds Sha.outB Sha.ofS Sha.ofD Wi.int Wi.bytes

set_option maxRecDepth 4000 in
set_option maxHeartbeats 2000000 in
theorem of_ct (tag : Int) (v : Value) (ps : List (List UInt8)) (hp : ∀ p ∈ ps, p.length < 1048576) (hl : ps.length < 1048576) (w : World) (hb : Sl encS (ph w) v ps) {fz1 : Nat × Nat} {bt1 : TypeId} (hg1 : w.heap[1]? = some (.cells (Sha.kc.map vw).toArray bt1 fz1)) : Ct Tryz.prog 115 [vi tag, v] w (fun r _ _ => r = .agg ((Sha.ofD tag ps).map vb).toArray) := by
 refine fn_enter Tryz.func115 rfl Tryz.ntmps115 (Nat.le_of_ble_eq_true rfl) fun a hF hS => ?_
 have hA := Sha.adds_len Sha.begin_ Sha.begin_8 Sha.begin_64 [ofb tag]
 obtain ⟨hA1, hA2⟩ := hA
 refine wp_seq_k ?_; intro K1 hK1
 refine regl ?_
 refine wpl_ef hF hS rfl (ef_allocA ty62) ?_
 clear hF hS; rintro _ _ _ a w ⟨b1, rfl, rfl, rfl⟩ hF hS
 rw [show List.replicate 16 (Value.int .u8 0) = (List.replicate 16 (0 : UInt8)).map vb from by rw [List.map_replicate] <;> rfl] at hS
 refine wpList_nil ?_
 refine hK1 _ _ ?_
 clear hK1
 refine wp_seq_k ?_; intro K2 hK2
 revert hS; revert hF; apply regJ (J := J2 (α0 := Value) (α1 := Nat) 32 _ _ _ _ _) #[false, false, false, false, false, false, false, false] 8 mixed rfl rfl
 ·intro w hF hS
  refine goW_take 1 _ rfl kQ rfl hF (hS.keep sQ zQ) (q_move rfl) ?_
  clear hF; intro a hF
  refine goW_take 2 _ rfl kQ rfl hF (hS.keep sQ zQ) (q_cv_ib ty3 ty5 rfl) ?_
  clear hF; intro a hF
  refine goW_fork [0, 3, 6] kQ rfl ⟨?_, ?_, ?_, trivial⟩
  ·refine stepW_ef _ rfl rfl hF hS rfl (ef_qt (q_call fn142 rfl (fun w hS => begin_ct w ) (fun _ _ _ h => h))) ?_
   clear hF hS; rintro _ _ _ a w ⟨rfl, rfl, rfl⟩ hF hS
   refine ⟨⟨.inr hS.k0, .inr hS.k0, trivial⟩, ?_⟩
   refine goW_fork [3, 6] kQ rfl ⟨?_, ?_, trivial⟩
   ·refine stepW_ef _ rfl rfl hF hS rfl (ef_bsliceA ty25 ty5 rfl rfl oQ (by decide) rfl rfl) ?_
    clear hF hS; rintro v_1_3 _ _ a w ⟨rfl, rfl⟩ hF hS
    refine ⟨⟨iQ, iQ, trivial⟩, ?_⟩
    refine goW_take 4 _ rfl kQ rfl hF (hS.keep sQ (zQ.k)) (q_b2s_row (xs := [_]) ty25 ty9 ty5 0 rfl rfl) ?_
    clear hF; intro a hF
    refine goW_fork [5, 6] kQ rfl ⟨?_, ?_, trivial⟩
    ·refine stepW_ef _ rfl rfl hF hS rfl (ef_qt (q_call fn143 rfl (fun w hS => add_ct _ _ (by first | assumption | rfl | (simp only [*]; done)) (by first | assumption | rfl | (simp only [*]; done)) (by first | assumption | omega | (simp; done) | (simp; omega) | (simp only [*]; omega)) w (hS.ext _ _ hg1)) (fun _ _ _ h => h))) ?_
     clear hF hS; rintro _ _ _ a w ⟨rfl, rfl, rfl⟩ hF hS
     refine ⟨⟨iQ, iQ, iQ, trivial⟩, ?_⟩
     refine gQ 6 rfl rfl hF hS rfl (ef_allocA ty223) ?_
     clear hF hS; rintro _ _ _ a w ⟨b_1_6, rfl, rfl, rfl⟩ hF hS
     refine ⟨⟨iQ, iQ, iQ, trivial⟩, ?_⟩
     refine gQ 7 rfl rfl hF hS rfl (ef_storeW ty223 0 rfl rfl rfl rfl bQ oQ bQ) ?_
     clear hF hS; rintro _ _ _ a w ⟨rfl, rfl, rfl⟩ hF hS
     (try dsimp only [segs] at hS)
     replace hS : St _ [] [_, _, _] _ := hS
     refine ⟨⟨iQ, iQ, iQ, trivial⟩, ?_⟩
     exact goW_done kQ (j2_mk v_1_3 b_1_6 (trivial) (hF.sub (L' := [(1, _), (4, _), (5, _)]) ⟨rfl, rfl, rfl, trivial⟩) hS)
    ·refine stepW_ef _ rfl rfl hF hS rfl (ef_allocA ty223) ?_
     clear hF hS; rintro _ _ _ a w ⟨b_1_6, rfl, rfl, rfl⟩ hF hS
     refine ⟨⟨.inr (hS.k1 (zQ.k.n)), iQ, iQ, trivial⟩, ?_⟩
     refine gQ 5 rfl rfl hF hS rfl (ef_qt (q_call fn143 rfl (fun w hS => add_ct _ _ (by first | assumption | rfl | (simp only [*]; done)) (by first | assumption | rfl | (simp only [*]; done)) (by first | assumption | omega | (simp; done) | (simp; omega) | (simp only [*]; omega)) w (hS.ext _ _ hg1)) (fun _ _ _ h => h))) ?_
     clear hF hS; rintro _ _ _ a w ⟨rfl, rfl, rfl⟩ hF hS
     refine ⟨⟨iQ, iQ, iQ, trivial⟩, ?_⟩
     refine gQ 7 rfl rfl hF hS rfl (ef_storeW ty223 0 rfl rfl rfl rfl bQ oQ bQ) ?_
     clear hF hS; rintro _ _ _ a w ⟨rfl, rfl, rfl⟩ hF hS
     (try dsimp only [segs] at hS)
     replace hS : St _ [] [_, _, _] _ := hS
     refine ⟨⟨iQ, iQ, iQ, trivial⟩, ?_⟩
     exact goW_done kQ (j2_mk v_1_3 b_1_6 (trivial) (hF.sub (L' := [(1, _), (4, _), (5, _)]) ⟨rfl, rfl, rfl, trivial⟩) hS)
   ·refine stepW_ef _ rfl rfl hF hS rfl (ef_allocA ty223) ?_
    clear hF hS; rintro _ _ _ a w ⟨b_1_6, rfl, rfl, rfl⟩ hF hS
    refine ⟨⟨.inr hS.k0, .inr hS.k0, trivial⟩, ?_⟩
    refine gQ 3 rfl rfl hF hS rfl (ef_bsliceA ty25 ty5 rfl rfl oQ (by decide) rfl rfl) ?_
    clear hF hS; rintro v_1_3 _ _ a w ⟨rfl, rfl⟩ hF hS
    refine ⟨⟨iQ, iQ, trivial⟩, ?_⟩
    refine goW_take 4 _ rfl kQ rfl hF (hS.keep sQ (zQ.k)) (q_b2s_row (xs := [_]) ty25 ty9 ty5 0 rfl rfl) ?_
    clear hF; intro a hF
    refine gQ 5 rfl rfl hF hS rfl (ef_qt (q_call fn143 rfl (fun w hS => add_ct _ _ (by first | assumption | rfl | (simp only [*]; done)) (by first | assumption | rfl | (simp only [*]; done)) (by first | assumption | omega | (simp; done) | (simp; omega) | (simp only [*]; omega)) w (hS.ext _ _ hg1)) (fun _ _ _ h => h))) ?_
    clear hF hS; rintro _ _ _ a w ⟨rfl, rfl, rfl⟩ hF hS
    refine ⟨⟨iQ, iQ, iQ, trivial⟩, ?_⟩
    refine gQ 7 rfl rfl hF hS rfl (ef_storeW ty223 1 rfl rfl rfl rfl bQ oQ bQ) ?_
    clear hF hS; rintro _ _ _ a w ⟨rfl, rfl, rfl⟩ hF hS
    (try dsimp only [segs] at hS)
    replace hS : St _ [] [_, _, _] _ := hS
    refine ⟨⟨iQ, iQ, iQ, trivial⟩, ?_⟩
    exact goW_done kQ (j2_mk v_1_3 b_1_6 (trivial) (hF.sub (L' := [(1, _), (4, _), (5, _)]) ⟨rfl, rfl, rfl, trivial⟩) (hS.perm (.swap _ _ _)))
  ·refine stepW_ef _ rfl rfl hF hS rfl (ef_bsliceA ty25 ty5 rfl rfl oQ (by decide) rfl rfl) ?_
   clear hF hS; rintro v_1_3 _ _ a w ⟨rfl, rfl⟩ hF hS
   refine ⟨⟨iQ, iQ, trivial⟩, ?_⟩
   refine goW_take 4 _ rfl kQ rfl hF (hS.keep sQ (zQ.k)) (q_b2s_row (xs := [_]) ty25 ty9 ty5 0 rfl rfl) ?_
   clear hF; intro a hF
   refine goW_fork [0, 6] kQ rfl ⟨?_, ?_, trivial⟩
   ·refine stepW_ef _ rfl rfl hF hS rfl (ef_qt (q_call fn142 rfl (fun w hS => begin_ct w ) (fun _ _ _ h => h))) ?_
    clear hF hS; rintro _ _ _ a w ⟨rfl, rfl, rfl⟩ hF hS
    refine ⟨⟨.inr (hS.k1 (zQ.k)), iQ, iQ, trivial⟩, ?_⟩
    refine goW_fork [5, 6] kQ rfl ⟨?_, ?_, trivial⟩
    ·refine stepW_ef _ rfl rfl hF hS rfl (ef_qt (q_call fn143 rfl (fun w hS => add_ct _ _ (by first | assumption | rfl | (simp only [*]; done)) (by first | assumption | rfl | (simp only [*]; done)) (by first | assumption | omega | (simp; done) | (simp; omega) | (simp only [*]; omega)) w (hS.ext _ _ hg1)) (fun _ _ _ h => h))) ?_
     clear hF hS; rintro _ _ _ a w ⟨rfl, rfl, rfl⟩ hF hS
     refine ⟨⟨iQ, iQ, iQ, trivial⟩, ?_⟩
     refine gQ 6 rfl rfl hF hS rfl (ef_allocA ty223) ?_
     clear hF hS; rintro _ _ _ a w ⟨b_1_6, rfl, rfl, rfl⟩ hF hS
     refine ⟨⟨iQ, iQ, iQ, trivial⟩, ?_⟩
     refine gQ 7 rfl rfl hF hS rfl (ef_storeW ty223 0 rfl rfl rfl rfl bQ oQ bQ) ?_
     clear hF hS; rintro _ _ _ a w ⟨rfl, rfl, rfl⟩ hF hS
     (try dsimp only [segs] at hS)
     replace hS : St _ [] [_, _, _] _ := hS
     refine ⟨⟨iQ, iQ, iQ, trivial⟩, ?_⟩
     exact goW_done kQ (j2_mk v_1_3 b_1_6 (trivial) (hF.sub (L' := [(1, _), (4, _), (5, _)]) ⟨rfl, rfl, rfl, trivial⟩) hS)
    ·refine stepW_ef _ rfl rfl hF hS rfl (ef_allocA ty223) ?_
     clear hF hS; rintro _ _ _ a w ⟨b_1_6, rfl, rfl, rfl⟩ hF hS
     refine ⟨⟨.inr (hS.k1 (zQ.k.n)), iQ, iQ, trivial⟩, ?_⟩
     refine gQ 5 rfl rfl hF hS rfl (ef_qt (q_call fn143 rfl (fun w hS => add_ct _ _ (by first | assumption | rfl | (simp only [*]; done)) (by first | assumption | rfl | (simp only [*]; done)) (by first | assumption | omega | (simp; done) | (simp; omega) | (simp only [*]; omega)) w (hS.ext _ _ hg1)) (fun _ _ _ h => h))) ?_
     clear hF hS; rintro _ _ _ a w ⟨rfl, rfl, rfl⟩ hF hS
     refine ⟨⟨iQ, iQ, iQ, trivial⟩, ?_⟩
     refine gQ 7 rfl rfl hF hS rfl (ef_storeW ty223 0 rfl rfl rfl rfl bQ oQ bQ) ?_
     clear hF hS; rintro _ _ _ a w ⟨rfl, rfl, rfl⟩ hF hS
     (try dsimp only [segs] at hS)
     replace hS : St _ [] [_, _, _] _ := hS
     refine ⟨⟨iQ, iQ, iQ, trivial⟩, ?_⟩
     exact goW_done kQ (j2_mk v_1_3 b_1_6 (trivial) (hF.sub (L' := [(1, _), (4, _), (5, _)]) ⟨rfl, rfl, rfl, trivial⟩) hS)
   ·refine stepW_ef _ rfl rfl hF hS rfl (ef_allocA ty223) ?_
    clear hF hS; rintro _ _ _ a w ⟨b_1_6, rfl, rfl, rfl⟩ hF hS
    refine ⟨⟨.inr (hS.k1 (zQ.k.n)), iQ, iQ, trivial⟩, ?_⟩
    refine gQ 0 rfl rfl hF hS rfl (ef_qt (q_call fn142 rfl (fun w hS => begin_ct w ) (fun _ _ _ h => h))) ?_
    clear hF hS; rintro _ _ _ a w ⟨rfl, rfl, rfl⟩ hF hS
    refine ⟨⟨.inr (hS.k1 (zQ.k.n)), iQ, iQ, trivial⟩, ?_⟩
    refine gQ 5 rfl rfl hF hS rfl (ef_qt (q_call fn143 rfl (fun w hS => add_ct _ _ (by first | assumption | rfl | (simp only [*]; done)) (by first | assumption | rfl | (simp only [*]; done)) (by first | assumption | omega | (simp; done) | (simp; omega) | (simp only [*]; omega)) w (hS.ext _ _ hg1)) (fun _ _ _ h => h))) ?_
    clear hF hS; rintro _ _ _ a w ⟨rfl, rfl, rfl⟩ hF hS
    refine ⟨⟨iQ, iQ, iQ, trivial⟩, ?_⟩
    refine gQ 7 rfl rfl hF hS rfl (ef_storeW ty223 0 rfl rfl rfl rfl bQ oQ bQ) ?_
    clear hF hS; rintro _ _ _ a w ⟨rfl, rfl, rfl⟩ hF hS
    (try dsimp only [segs] at hS)
    replace hS : St _ [] [_, _, _] _ := hS
    refine ⟨⟨iQ, iQ, iQ, trivial⟩, ?_⟩
    exact goW_done kQ (j2_mk v_1_3 b_1_6 (trivial) (hF.sub (L' := [(1, _), (4, _), (5, _)]) ⟨rfl, rfl, rfl, trivial⟩) hS)
  ·refine stepW_ef _ rfl rfl hF hS rfl (ef_allocA ty223) ?_
   clear hF hS; rintro _ _ _ a w ⟨b_1_6, rfl, rfl, rfl⟩ hF hS
   refine ⟨⟨.inr hS.k0, .inr hS.k0, trivial⟩, ?_⟩
   refine goW_fork [0, 3] kQ rfl ⟨?_, ?_, trivial⟩
   ·refine stepW_ef _ rfl rfl hF hS rfl (ef_qt (q_call fn142 rfl (fun w hS => begin_ct w ) (fun _ _ _ h => h))) ?_
    clear hF hS; rintro _ _ _ a w ⟨rfl, rfl, rfl⟩ hF hS
    refine ⟨⟨.inr hS.k0, .inr hS.k0, trivial⟩, ?_⟩
    refine gQ 3 rfl rfl hF hS rfl (ef_bsliceA ty25 ty5 rfl rfl oQ (by decide) rfl rfl) ?_
    clear hF hS; rintro v_1_3 _ _ a w ⟨rfl, rfl⟩ hF hS
    refine ⟨⟨iQ, iQ, trivial⟩, ?_⟩
    refine goW_take 4 _ rfl kQ rfl hF (hS.keep sQ (zQ.k)) (q_b2s_row (xs := [_]) ty25 ty9 ty5 0 rfl rfl) ?_
    clear hF; intro a hF
    refine gQ 5 rfl rfl hF hS rfl (ef_qt (q_call fn143 rfl (fun w hS => add_ct _ _ (by first | assumption | rfl | (simp only [*]; done)) (by first | assumption | rfl | (simp only [*]; done)) (by first | assumption | omega | (simp; done) | (simp; omega) | (simp only [*]; omega)) w (hS.ext _ _ hg1)) (fun _ _ _ h => h))) ?_
    clear hF hS; rintro _ _ _ a w ⟨rfl, rfl, rfl⟩ hF hS
    refine ⟨⟨iQ, iQ, iQ, trivial⟩, ?_⟩
    refine gQ 7 rfl rfl hF hS rfl (ef_storeW ty223 1 rfl rfl rfl rfl bQ oQ bQ) ?_
    clear hF hS; rintro _ _ _ a w ⟨rfl, rfl, rfl⟩ hF hS
    (try dsimp only [segs] at hS)
    replace hS : St _ [] [_, _, _] _ := hS
    refine ⟨⟨iQ, iQ, iQ, trivial⟩, ?_⟩
    exact goW_done kQ (j2_mk v_1_3 b_1_6 (trivial) (hF.sub (L' := [(1, _), (4, _), (5, _)]) ⟨rfl, rfl, rfl, trivial⟩) (hS.perm (.swap _ _ _)))
   ·refine stepW_ef _ rfl rfl hF hS rfl (ef_bsliceA ty25 ty5 rfl rfl oQ (by decide) rfl rfl) ?_
    clear hF hS; rintro v_1_3 _ _ a w ⟨rfl, rfl⟩ hF hS
    refine ⟨⟨iQ, iQ, trivial⟩, ?_⟩
    refine goW_take 4 _ rfl kQ rfl hF (hS.keep sQ (zQ.k)) (q_b2s_row (xs := [_]) ty25 ty9 ty5 0 rfl rfl) ?_
    clear hF; intro a hF
    refine gQ 0 rfl rfl hF hS rfl (ef_qt (q_call fn142 rfl (fun w hS => begin_ct w ) (fun _ _ _ h => h))) ?_
    clear hF hS; rintro _ _ _ a w ⟨rfl, rfl, rfl⟩ hF hS
    refine ⟨⟨.inr (hS.k1 (zQ.k)), iQ, iQ, trivial⟩, ?_⟩
    refine gQ 5 rfl rfl hF hS rfl (ef_qt (q_call fn143 rfl (fun w hS => add_ct _ _ (by first | assumption | rfl | (simp only [*]; done)) (by first | assumption | rfl | (simp only [*]; done)) (by first | assumption | omega | (simp; done) | (simp; omega) | (simp only [*]; omega)) w (hS.ext _ _ hg1)) (fun _ _ _ h => h))) ?_
    clear hF hS; rintro _ _ _ a w ⟨rfl, rfl, rfl⟩ hF hS
    refine ⟨⟨iQ, iQ, iQ, trivial⟩, ?_⟩
    refine gQ 7 rfl rfl hF hS rfl (ef_storeW ty223 1 rfl rfl rfl rfl bQ oQ bQ) ?_
    clear hF hS; rintro _ _ _ a w ⟨rfl, rfl, rfl⟩ hF hS
    (try dsimp only [segs] at hS)
    replace hS : St _ [] [_, _, _] _ := hS
    refine ⟨⟨iQ, iQ, iQ, trivial⟩, ?_⟩
    exact goW_done kQ (j2_mk v_1_3 b_1_6 (trivial) (hF.sub (L' := [(1, _), (4, _), (5, _)]) ⟨rfl, rfl, rfl, trivial⟩) (hS.perm (.swap _ _ _)))
 rintro a w ⟨v_1_3, b_1_6, -, hF, hS⟩
 (try dsimp only at hF); (try dsimp only at hS)
 refine hK2 _ _ ?_
 clear hK2
 refine wp_seq_k ?_; intro K3 hK3
 refine wp_seq_k ?_; intro K4 hK4
 refine reg hF hS (sq rfl (q_move rfl) <|
   sq rfl (q_len_sl ty40 hb rfl) <|
   sq rfl (q_move rfl) <|
   sq_end) ?_
 clear hF hS; intro a w hF hS
 refine hK4 _ _ ?_
 clear hK4
 refine wp_block ?_
 obtain ⟨hs0, hhs0, hS⟩ : ∃ h, h = _ ∧ St _ _ h _ := ⟨_, rfl, hS⟩
 refine wp_loopx (γ := Int) (0) (fun (i : Int) => [(17, vi i)]) [(4, _), (5, _), (15, _), (16, _)] (fun (i : Int) => (hs0.set 0 (.blk b_1_6 223 (stmC (Sha.ofS tag (ps.take i.toNat)))))) (fun (i : Int) => 0 ≤ i ∧ i ≤ ps.length) (fun (i : Int) => (ps.length - i).toNat) (hF.sub ⟨rfl, rfl, rfl, rfl, rfl, trivial⟩) (by subst hhs0; rw [← Sha.ofS_0] at hS; exact hS) (by exact ⟨Int.le_refl _, by omega⟩) ?_
 clear hF hS; rintro i a w hfact hF hS
 subst hhs0; (try dsimp only at hfact); (try dsimp only at hF); (try dsimp only at hS)
 obtain ⟨hi0, hi1⟩ := hfact
 replace hS : St _ [] [_, _, _] _ := hS
 obtain ⟨hB1, hB2⟩ := Sha.ofS_ok tag (ps.take i.toNat)
 refine wp_seq_k ?_; intro K5 hK5
 refine reg hF hS (sq rfl (q_lti rfl rfl) <|
   sq_end) ?_
 clear hF hS; intro a w hF hS
 refine hK5 _ _ ?_
 clear hK5
 refine wp_seq_k ?_; intro K6 hK6
 refine wp_ifd hF rfl (fun hc1 => ?_) (fun hc1 => ?_)
 ·refine wp_skip ?_
  refine hK6 _ _ ?_
  clear hK6
  refine wp_seq_k ?_; intro K7 hK7
  refine wp_block ?_
  refine wp_seq_k ?_; intro K8 hK8
  refine reg hF hS (sq rfl (q_idx_sl ty40 ty9 hb rfl rfl (by omega)) <|
    sq rfl (q_ld_S ty9 hb zin0 rfl rfl (by omega)) <|
    sq rfl (q_assign rfl) <|
    sq_end) ?_
  clear hF hS; intro a w hF hS
  have hpi := hp _ (Sha.getD_mem ps i.toNat (by omega))
  have hbl := Wi.bytes_len (ps.getD i.toNat [])
  obtain ⟨hD1, hD2⟩ := Sha.adds_len _ hB1 hB2 (Wi.bytes (ps.getD i.toNat []))
  have hlen : (stmC (Sha.adds (Sha.ofS tag (ps.take i.toNat)) (Wi.bytes (ps.getD i.toNat [])))).length = 73 := by rw [stmC_len]; omega
  refine hK8 _ _ ?_
  clear hK8
  revert hS; revert hF; apply regJ (J := J1 (α0 := Value) 32 _ _ _ _ _) #[false, false, false, false, false, false] 6 mixed rfl rfl
  ·intro w hF hS
   refine goW_take 0 _ rfl kQ rfl hF (hS.keep sQ (zQ.k)) (q_ld_blkW ty223 0 rfl rfl bQ rfl) ?_
   clear hF; intro a hF
   refine goW_take 1 _ rfl kQ rfl hF (hS.keep sQ zQ) (q_move rfl) ?_
   clear hF; intro a hF
   refine gQ 2 rfl rfl hF hS rfl (ef_call fn58 rfl (fun w hS => wbytes_ct _ (by first | assumption | omega) w )) ?_
   clear hF hS; rintro v_5_2 _ _ a w ⟨_, _, rfl, rfl, rfl, rfl⟩ hF hS
   refine ⟨⟨iQ, .inr (hS.k1 (zQ.k.n)), trivial⟩, ?_⟩
   refine goW_take 3 _ rfl kQ rfl hF (hS.keep sQ (zQ.k)) (q_b2s_row ty25 ty9 ty5 0 rfl rfl) ?_
   clear hF; intro a hF
   refine gQ 4 rfl rfl hF hS rfl (ef_qt (q_call fn143 rfl (fun w hS => add_ct _ _ (by first | assumption | rfl | (simp only [*]; done)) (by first | assumption | rfl | (simp only [*]; done)) (by first | assumption | omega | (simp; done) | (simp; omega) | (simp only [*]; omega)) w (hS.ext _ _ hg1)) (fun _ _ _ h => h))) ?_
   clear hF hS; rintro _ _ _ a w ⟨rfl, rfl, rfl⟩ hF hS
   refine ⟨⟨iQ, iQ, iQ, trivial⟩, ?_⟩
   refine gQ 5 rfl rfl hF hS rfl (ef_storeW ty223 1 rfl rfl rfl rfl bQ oQ bQ) ?_
   clear hF hS; rintro _ _ _ a w ⟨rfl, rfl, rfl⟩ hF hS
   (try dsimp only [segs] at hS)
   replace hS : St _ [] [_, _, _, _] _ := hS
   refine ⟨⟨iQ, iQ, iQ, trivial⟩, ?_⟩
   exact goW_done kQ (j1_mk v_5_2 (trivial) (hF.sub (L' := [(4, _), (5, _), (15, _), (16, _), (17, _)]) ⟨rfl, rfl, rfl, rfl, rfl, trivial⟩) hS)
  rintro a w ⟨v_5_2, -, hF, hS⟩
  (try dsimp only at hF); (try dsimp only at hS)
  refine hK7 _ _ ?_
  clear hK7
  refine reg hF hS (sq rfl (q_addi rfl rfl (by omega)) <|
    sq rfl (q_move rfl) <|
    sq_end) ?_
  clear hF hS; intro a w hF hS
  replace hS := hS.keep zQ (sQ.n)
  refine ⟨(i + 1), ?_, ?_, hF.sub ⟨rfl, rfl, rfl, rfl, rfl, trivial⟩, ?_⟩
  ·(try dsimp only); omega
  ·(try dsimp only); omega
  ·rw [Sha.ofS_step' _ _ _ (by omega), show i.toNat + 1 = (i + 1).toNat by omega] at hS
   exact hS
 ·obtain rfl : i = ps.length := by omega
  rw [Int.toNat_natCast, List.take_length] at hS
  obtain ⟨hC1, hC2⟩ := Sha.ofS_ok tag ps
  have hC3 := Sha.ofS_n tag ps hp hl
  have hC4 := Sha.fin_len (Sha.ofS tag ps)
  refine wp_exit ?_
  refine hK3 _ _ ?_
  clear hK3
  refine wp_seq_k ?_; intro K9 hK9
  refine regl ?_
  refine wpl_sq hF hS (sq rfl (q_ld_blkW ty223 0 rfl rfl bQ rfl) <|
    sq rfl (q_call fn144 rfl (fun w hS => ssum_ct _ (by first | assumption | (simp [*]; done)) (by first | assumption | (simp [*]; done)) (by first | assumption | omega) w (hS.ext _ _ hg1)) (fun _ _ _ h => h)) <|
    sq_end) ?_
  clear hF hS; intro a w hF hS
  refine wpl_ef hF hS rfl (ef_allocA ty182) ?_
  clear hF hS; rintro _ _ _ a w ⟨b2, rfl, rfl, rfl⟩ hF hS
  rw [show List.replicate 32 (Value.int .u8 0) = (List.replicate 32 (0 : UInt8)).map vb from by rw [List.map_replicate] <;> rfl] at hS
  refine wpl_ef hF hS rfl (ef_storeW ty182 0 rfl rfl rfl rfl bQ oQ bQ) ?_
  clear hF hS; rintro _ _ _ a w ⟨rfl, rfl, rfl⟩ hF hS
  replace hS : St _ [] [_, _, _, _] _ := hS
  refine wpList_nil ?_
  refine hK9 _ _ ?_
  clear hK9
  refine wp_seq_k ?_; intro K10 hK10
  refine regl ?_
  refine wpl_sq hF hS (sq rfl (q_sla_hi ty182 ty5 rfl rfl (by omega)) <|
    sq rfl (q_s2ap ty62 rfl (by omega)) <|
    sq rfl (q_ld_blkAM ty62 0 rfl rfl bQ rfl) <|
    sq_end) ?_
  clear hF hS; intro a w hF hS
  refine wpl_ef hF hS rfl (ef_storeW ty62 3 rfl rfl rfl rfl bQ oQ bQ) ?_
  clear hF hS; rintro _ _ _ a w ⟨rfl, rfl, rfl⟩ hF hS
  replace hS : St _ [] [_, _, _, _] _ := hS
  refine wpList_nil ?_
  refine hK10 _ _ ?_
  clear hK10
  refine wp_ret ?_
  exact fn_ret (rs := [.cell 4 62]) rfl hF hS (vs := [_]) ⟨⟨_, _, _, _, _, _, _, rfl, List.mem_of_getElem? (i := 3) rfl, ty62, .inl ⟨rfl, bQ, rfl⟩⟩, trivial⟩ zQ zQ (by unfold Sha.ofD; rfl)
end Go.Proofs.YtngcjojijaknnaaGreatDoor
end

section
namespace Go.Proofs.YtngcjojijaknnaaGreatDoor
open Go.Fw
end Go.Proofs.YtngcjojijaknnaaGreatDoor
end

section
namespace Go.Proofs.YtngcjojijaknnaaGreatDoor
open Go.Fw
end Go.Proofs.YtngcjojijaknnaaGreatDoor
end

section
namespace Go.Proofs.YtngcjojijaknnaaGreatDoor
open Go.Fw


end Go.Proofs.YtngcjojijaknnaaGreatDoor
end

section
namespace Go.Proofs.YtngcjojijaknnaaGreatDoor
open Go.Fw


attribute [local irreducible] Sha.sum Sha.keyOf Sha.padK Sha.mac
end Go.Proofs.YtngcjojijaknnaaGreatDoor
end

section
namespace Go.Proofs.YtngcjojijaknnaaGreatDoor
open Go.Fw


attribute [local irreducible] Sha.sum Sha.keyOf Sha.padK Sha.mac
end Go.Proofs.YtngcjojijaknnaaGreatDoor
end

section
namespace Go.Proofs.YtngcjojijaknnaaGreatDoor
open Go.Fw
attribute [local irreducible] Sha.sum Sha.cpW

end Go.Proofs.YtngcjojijaknnaaGreatDoor
end

section
namespace Go.Proofs.YtngcjojijaknnaaGreatDoor
open Go.Fw


end Go.Proofs.YtngcjojijaknnaaGreatDoor
end

section
namespace Go.Proofs.YtngcjojijaknnaaGreatDoor
open Go.Fw
attribute [local irreducible] Sha.sum Wi.int

end Go.Proofs.YtngcjojijaknnaaGreatDoor
end

section
namespace Go.Proofs.YtngcjojijaknnaaGreatDoor
open Go.Fw
attribute [local irreducible] Sha.sum Wi.int Wi.bytes Sha.inp

end Go.Proofs.YtngcjojijaknnaaGreatDoor
end
