/- A text of a proof over this seat: walks over the program's functions and the plain laws that they need. -/
import Derived.Test.YtibbhobfdbfkkaaGreatDoorFwB
import Derived.Test.YtibbhobfdbfkkaaGreatDoorShW
import Derived.Test.YtibbhobfdbfkkaaGreatDoorDkA
import Derived.Test.YtibbhobfdbfkkaaGreatDoorJlay
import Derived.Test.YtibbhobfdbfkkaaGreatDoorChecked
set_option linter.all false
section
namespace Go.Proofs.YtibbhobfdbfkkaaGreatDoor
open Go.Fw
theorem mixed : Tryz.prog.follows .mixedOrders = true := by kernel_rfl
theorem ty3 : Tf Tryz.prog 3 (.int .i64) 1 8 (Value.int .i64 0) := ⟨Tryz.underlying3, by kernel_rfl⟩
theorem ty5 : Tf Tryz.prog 5 (.int .u8) 1 1 (Value.int .u8 0) := ⟨Tryz.underlying5, by kernel_rfl⟩
theorem ty47 : Tf Tryz.prog 47 (.int .u64) 1 8 (Value.int .u64 0) := ⟨Tryz.underlying47, by kernel_rfl⟩
theorem ty81 : Tf Tryz.prog 81 (.slice 5) 1 24 (Value.slice none 0 0) := ⟨Tryz.underlying81, by kernel_rfl⟩
theorem ty137 : Tf Tryz.prog 137 (.int .u32) 1 4 (Value.int .u32 0) := ⟨Tryz.underlying137, by kernel_rfl⟩
theorem ty146 : Tf Tryz.prog 146 (.array 8 137) 8 32 (.agg (List.replicate 8 (Value.int .u32 0)).toArray) := ⟨Tryz.underlying146, by kernel_rfl⟩
theorem ty161 : Tf Tryz.prog 161 (.array 64 137) 64 256 (.agg (List.replicate 64 (Value.int .u32 0)).toArray) := ⟨Tryz.underlying161, by kernel_rfl⟩
theorem ty167 : Tf Tryz.prog 167 (.array 4 137) 4 16 (.agg ([Value.int .u32 0, Value.int .u32 0, Value.int .u32 0, Value.int .u32 0]).toArray) := ⟨Tryz.underlying167, by kernel_rfl⟩
theorem fn110 : FnOk Tryz.prog 110 := ⟨_, Tryz.func110, rfl, by kernel_rfl⟩
theorem fn111 : FnOk Tryz.prog 111 := ⟨_, Tryz.func111, rfl, by kernel_rfl⟩
theorem fn123 : FnOk Tryz.prog 123 := ⟨_, Tryz.func123, rfl, by kernel_rfl⟩

set_option maxRecDepth 4000 in
set_option maxHeartbeats 2000000 in
theorem rot_ct (x : UInt32) (k : Int) (w : World) : Ct Tryz.prog 123 [vw x, vi k] w (fun v _ _ => v = vw (Sha.rotl x k)) := by
 refine fn_enter Tryz.func123 rfl Tryz.ntmps123 (Nat.le_of_ble_eq_true rfl) fun a hF hS => ?_
 have hk := (ofq k &&& 31)
 refine wp_seq_k ?_; intro K1 hK1
 refine reg hF hS (sq rfl (q_assign rfl) <|
   sq_end) ?_
 clear hF hS; intro a w hF hS
 refine hK1 _ _ ?_
 clear hK1
 refine wp_seq_k ?_; intro K2 hK2
 refine reg hF hS (sq rfl (q_move rfl) <|
   sq rfl (q_cv_iq ty3 ty47 rfl) <|
   sq rfl (q_andq (q := 31) rfl rfl) <|
   sq rfl (q_assign rfl) <|
   sq_end) ?_
 clear hF hS; intro a w hF hS
 refine hK2 _ _ ?_
 clear hK2
 refine wp_seq_k ?_; intro K3 hK3
 refine reg hF hS (sq rfl (q_move rfl) <|
   sq rfl (q_move rfl) <|
   sq rfl (q_shlw rfl rfl (by omega)) <|
   sq rfl (q_move rfl) <|
   sq rfl (q_move rfl) <|
   sq rfl (q_subq (p := 32) rfl rfl) <|
   sq rfl (q_shrw rfl rfl (by omega)) <|
   sq rfl (q_orw rfl rfl) <|
   sq rfl (q_assign rfl) <|
   sq_end) ?_
 clear hF hS; intro a w hF hS
 refine hK3 _ _ ?_
 clear hK3
 refine wp_ret ?_
 exact fn_ret (rs := [.tmp 4]) rfl hF hS (vs := [_]) ⟨rfl, trivial⟩ zQ zQ (rfl)

set_option maxRecDepth 4000 in
set_option maxHeartbeats 2000000 in
theorem mix_ct (x : UInt32) (i j k : Int) (hi : 0 < i ∧ i < 32) (hj : 0 < j ∧ j < 32) (hk : 0 < k ∧ k < 32) (w : World) : Ct Tryz.prog 111 [vw x, vi i, vi j, vi k] w (fun v _ _ => v = vw (Sha.rotr x (UInt32.ofNat i.toNat) ^^^ Sha.rotr x (UInt32.ofNat j.toNat) ^^^ Sha.rotr x (UInt32.ofNat k.toNat))) := by
 refine fn_enter Tryz.func111 rfl Tryz.ntmps111 (Nat.le_of_ble_eq_true rfl) fun a hF hS => ?_
 refine wp_seq_k ?_; intro K1 hK1
 refine reg hF hS (sq rfl (q_assign rfl) <|
   sq_end) ?_
 clear hF hS; intro a w hF hS
 refine hK1 _ _ ?_
 clear hK1
 refine wp_seq_k ?_; intro K2 hK2
 refine reg hF hS (sq rfl (q_move rfl) <|
   sq rfl (q_move rfl) <|
   sq rfl (q_negi rfl (by omega)) <|
   sq rfl (q_call fn123 rfl (fun w hS => rot_ct _ _ w ) (fun _ _ _ h => h)) <|
   sq rfl (q_move rfl) <|
   sq rfl (q_move rfl) <|
   sq rfl (q_negi rfl (by omega)) <|
   sq rfl (q_call fn123 rfl (fun w hS => rot_ct _ _ w ) (fun _ _ _ h => h)) <|
   sq rfl (q_xorw rfl rfl) <|
   sq rfl (q_move rfl) <|
   sq rfl (q_move rfl) <|
   sq rfl (q_negi rfl (by omega)) <|
   sq rfl (q_call fn123 rfl (fun w hS => rot_ct _ _ w ) (fun _ _ _ h => h)) <|
   sq rfl (q_xorw rfl rfl) <|
   sq rfl (q_assign rfl) <|
   sq_end) ?_
 clear hF hS; intro a w hF hS
 refine hK2 _ _ ?_
 clear hK2
 refine wp_ret ?_
 exact fn_ret (rs := [.tmp 8]) rfl hF hS (vs := [_]) ⟨rfl, trivial⟩ zQ zQ (by rw [Sha.mix_rotr x i j k hi hj hk])

set_option maxRecDepth 4000 in
set_option maxHeartbeats 2000000 in
theorem sched_ct (v : Value) (bb : List UInt8) (hl : bb.length = 64) (w : World) (hb : Sl encB (ph w) v bb) : Ct Tryz.prog 110 [v] w (fun r _ _ => r = .agg ((Sha.sch bb 64).map vw).toArray) := by
 refine fn_enter Tryz.func110 rfl Tryz.ntmps110 (Nat.le_of_ble_eq_true rfl) fun a hF hS => ?_
 have hb := hb
 refine wp_seq_k ?_; intro K1 hK1
 refine regl ?_
 refine wpl_ef hF hS rfl (ef_allocA ty161) ?_
 clear hF hS; rintro _ _ _ a w ⟨b1, rfl, rfl, rfl⟩ hF hS
 rw [show List.replicate 64 (Value.int .u32 0) = (List.replicate 64 (0 : UInt32)).map vw from by rw [List.map_replicate] <;> rfl] at hS
 refine wpList_nil ?_
 refine hK1 _ _ ?_
 clear hK1
 refine wp_seq_k ?_; intro K2 hK2
 refine regl ?_
 refine wpl_ef hF hS rfl (ef_allocA ty161) ?_
 clear hF hS; rintro _ _ _ a w ⟨b2, rfl, rfl, rfl⟩ hF hS
 rw [show List.replicate 64 (Value.int .u32 0) = (List.replicate 64 (0 : UInt32)).map vw from by rw [List.map_replicate] <;> rfl] at hS
 refine wpList_nil ?_
 refine hK2 _ _ ?_
 clear hK2
 refine wp_seq_k ?_; intro K3 hK3
 refine wp_seq_k ?_; intro K4 hK4
 refine reg hF hS (sq rfl (q_move rfl) <|
   sq_end) ?_
 clear hF hS; intro a w hF hS
 refine hK4 _ _ ?_
 clear hK4
 refine wp_block ?_
 obtain ⟨hs0, hhs0, hS⟩ : ∃ h, h = _ ∧ St _ _ h _ := ⟨_, rfl, hS⟩
 refine wp_loopx (γ := Int) (0) (fun (t : Int) => [(11, vi t)]) [(0, _), (2, _), (3, _)] (fun (t : Int) => (hs0.set 0 (.blk b2 161 ((Sha.schW bb t.toNat).map vw)))) (fun (t : Int) => 0 ≤ t ∧ t ≤ 64) (fun (t : Int) => (64 - t).toNat) (hF.sub ⟨rfl, rfl, rfl, rfl, trivial⟩) (by subst hhs0; exact hS) (by simp) ?_
 clear hF hS; rintro t a w hfact hF hS
 subst hhs0; (try dsimp only at hfact); (try dsimp only at hF); (try dsimp only at hS)
 obtain ⟨ht0, ht1⟩ := hfact
 replace hS : St _ [] [_, _] _ := hS
 have hwl := Sha.schW_len bb t.toNat (by omega)
 refine wp_seq_k ?_; intro K5 hK5
 refine reg hF hS (sq rfl (q_lti rfl rfl) <|
   sq_end) ?_
 clear hF hS; intro a w hF hS
 refine hK5 _ _ ?_
 clear hK5
 refine wp_seq_k ?_; intro K6 hK6
 refine wp_ifd hF rfl (fun hc1 => ?_) (fun hc1 => ?_)
 ·refine wp_skip ?_
  refine hK6 _ _ ?_
  clear hK6
  refine wp_seq_k ?_; intro K7 hK7
  refine wp_block ?_
  refine wp_seq_k ?_; intro K8 hK8
  refine reg hF hS (sq rfl (q_move rfl) <|
    sq rfl (q_assign rfl) <|
    sq_end) ?_
  clear hF hS; intro a w hF hS
  refine hK8 _ _ ?_
  clear hK8
  refine wp_seq_k ?_; intro K9 hK9
  refine wp_seq_k ?_; intro K10 hK10
  refine reg hF hS (sq rfl (q_move rfl) <|
    sq rfl (q_lti rfl rfl) <|
    sq_end) ?_
  clear hF hS; intro a w hF hS
  refine hK10 _ _ ?_
  clear hK10
  refine wp_ifd hF rfl (fun hc2 => ?_) (fun hc2 => ?_)
  ·refine wp_seq_k ?_; intro K11 hK11
   refine wp_seq_k ?_; intro K12 hK12
   refine reg hF hS (sq rfl (q_move rfl) <|
     sq rfl (q_move rfl) <|
     sq rfl (q_muli rfl rfl (by omega)) <|
     sq rfl (q_move rfl) <|
     sq rfl (q_muli rfl rfl (by omega)) <|
     sq rfl (q_addi rfl rfl (by omega)) <|
     sq rfl (q_slsl_lo_hi ty81 ty5 hb rfl rfl rfl (by omega)) <|
     sq rfl (q_len_sl ty81 (Sl.cut hb (by omega)) rfl) <|
     sq rfl (q_move rfl) <|
     sq_end) ?_
   clear hF hS; intro a w hF hS
   have hlen : (((bb.take (4 * t + 4).toNat).drop (4 * t).toNat).length : Int) = 4 := by simp; omega
   refine hK12 _ _ ?_
   clear hK12
   refine wp_block ?_
   obtain ⟨hs0, hhs0, hS⟩ : ∃ h, h = _ ∧ St _ _ h _ := ⟨_, rfl, hS⟩
   refine wp_loopx (γ := Int) (0) (fun (j : Int) => [(24, vi j)]) [(0, _), (2, _), (3, _), (4, _), (11, _), (22, _), (23, _)] (fun (j : Int) => (hs0.set 0 (.blk b2 161 ((Sha.schA bb t.toNat j.toNat).map vw)))) (fun (j : Int) => 0 ≤ j ∧ j ≤ 4) (fun (j : Int) => (4 - j).toNat) (hF.sub ⟨rfl, rfl, rfl, rfl, rfl, rfl, rfl, rfl, trivial⟩) (by subst hhs0; rw [Sha.schW_A bb t.toNat (by omega)] at hS; exact hS) (by simp) ?_
   clear hF hS; rintro j a w hfact hF hS
   subst hhs0; (try dsimp only at hfact); (try dsimp only at hF); (try dsimp only at hS)
   obtain ⟨hj0, hj1⟩ := hfact
   replace hS : St _ [] [_, _] _ := hS
   have hal := Sha.schA_len bb t.toNat j.toNat (by omega)
   refine wp_seq_k ?_; intro K13 hK13
   refine reg hF hS (sq rfl (q_lti rfl rfl) <|
     sq_end) ?_
   clear hF hS; intro a w hF hS
   refine hK13 _ _ ?_
   clear hK13
   refine wp_seq_k ?_; intro K14 hK14
   refine wp_ifd hF rfl (fun hc3 => ?_) (fun hc3 => ?_)
   ·refine wp_skip ?_
    refine hK14 _ _ ?_
    clear hK14
    refine wp_seq_k ?_; intro K15 hK15
    refine wp_block ?_
    refine wp_seq_k ?_; intro K16 hK16
    refine reg hF hS (sq rfl (q_idx_sl ty81 ty5 (Sl.cut hb (by omega)) rfl rfl (by omega)) <|
      sq rfl (q_ld_B ty5 (Sl.cut hb (by omega)) zin0 rfl rfl (by omega)) <|
      sq rfl (q_assign rfl) <|
      sq_end) ?_
    clear hF hS; intro a w hF hS
    refine hK16 _ _ ?_
    clear hK16
    refine regl ?_
    refine wpl_sq hF hS (sq rfl (q_move rfl) <|
      sq rfl (q_move rfl) <|
      sq rfl (q_idx_arr0 ty161 ty137 rfl rfl (by omega)) <|
      sq rfl (q_ld_blkM ty137 0 0 rfl rfl bQ rfl) <|
      sq rfl (q_shlw rfl rfl (by omega)) <|
      sq rfl (q_move rfl) <|
      sq rfl (q_cv_bw ty5 ty137 rfl) <|
      sq rfl (q_orw rfl rfl) <|
      sq rfl (q_idx_arr0 ty161 ty137 rfl rfl (by omega)) <|
      sq_end) ?_
    clear hF hS; intro a w hF hS
    refine wpl_ef hF hS rfl (ef_st_blkM ty137 0 rfl rfl rfl bQ rfl) ?_
    clear hF hS; rintro _ _ _ a w ⟨rfl, rfl, rfl⟩ hF hS
    replace hS : St _ [] [_, _] _ := hS
    refine wpList_nil ?_
    refine hK15 _ _ ?_
    clear hK15
    refine reg hF hS (sq rfl (q_addi rfl rfl (by omega)) <|
      sq rfl (q_move rfl) <|
      sq_end) ?_
    clear hF hS; intro a w hF hS
    rw [Sha.acc_step bb t j (by omega) (by omega) (by omega) (by omega) hl] at hS
    refine ⟨(j + 1), ?_, ?_, hF.sub ⟨rfl, rfl, rfl, rfl, rfl, rfl, rfl, rfl, trivial⟩, ?_⟩
    ·(try dsimp only); omega
    ·(try dsimp only); omega
    ·exact hS
   ·refine wp_exit ?_
    refine hK11 _ _ ?_
    clear hK11
    refine wp_exit ?_
    refine hK7 _ _ ?_
    clear hK7
    refine reg hF hS (sq rfl (q_addi rfl rfl (by omega)) <|
      sq rfl (q_move rfl) <|
      sq_end) ?_
    clear hF hS; intro a w hF hS
    have hj : j = 4 := by omega
    subst hj
    rw [show (4 : Int).toNat = 4 from rfl, Sha.schA_end bb t.toNat (by omega), show t.toNat + 1 = (t + 1).toNat by omega] at hS
    refine ⟨(t + 1), ?_, ?_, hF.sub ⟨rfl, rfl, rfl, rfl, trivial⟩, ?_⟩
    ·(try dsimp only); omega
    ·(try dsimp only); omega
    ·exact hS
  ·refine wp_skip ?_
   refine hK9 _ _ ?_
   clear hK9
   refine wp_seq_k ?_; intro K17 hK17
   refine regd mixed kQ hF hS (sq rfl (q_move rfl) <|
     sq rfl (q_subi rfl rfl (by omega)) <|
     sq rfl (q_idx_arr0 ty161 ty137 rfl rfl (by omega)) <|
     sq rfl (q_ld_blkM ty137 0 0 rfl rfl bQ rfl) <|
     sq rfl (q_move rfl) <|
     sq rfl (q_subi rfl rfl (by omega)) <|
     sq rfl (q_idx_arr0 ty161 ty137 rfl rfl (by omega)) <|
     sq rfl (q_ld_blkM ty137 0 0 rfl rfl bQ rfl) <|
     sq rfl (q_assign rfl) <|
     sq rfl (q_assign rfl) <|
     sq_end) ?_
   clear hF hS; intro a w hF hS
   refine hK17 _ _ ?_
   clear hK17
   refine wp_seq_k ?_; intro K18 hK18
   refine reg hF hS (sq rfl (q_move rfl) <|
     sq rfl (q_call fn123 rfl (fun w hS => rot_ct _ _ w ) (fun _ _ _ h => h)) <|
     sq rfl (q_move rfl) <|
     sq rfl (q_call fn123 rfl (fun w hS => rot_ct _ _ w ) (fun _ _ _ h => h)) <|
     sq rfl (q_xorw rfl rfl) <|
     sq rfl (q_move rfl) <|
     sq rfl (q_shrw rfl rfl (by omega)) <|
     sq rfl (q_xorw rfl rfl) <|
     sq rfl (q_assign rfl) <|
     sq_end) ?_
   clear hF hS; intro a w hF hS
   refine hK18 _ _ ?_
   clear hK18
   refine wp_seq_k ?_; intro K19 hK19
   refine reg hF hS (sq rfl (q_move rfl) <|
     sq rfl (q_call fn123 rfl (fun w hS => rot_ct _ _ w ) (fun _ _ _ h => h)) <|
     sq rfl (q_move rfl) <|
     sq rfl (q_call fn123 rfl (fun w hS => rot_ct _ _ w ) (fun _ _ _ h => h)) <|
     sq rfl (q_xorw rfl rfl) <|
     sq rfl (q_move rfl) <|
     sq rfl (q_shrw rfl rfl (by omega)) <|
     sq rfl (q_xorw rfl rfl) <|
     sq rfl (q_assign rfl) <|
     sq_end) ?_
   clear hF hS; intro a w hF hS
   refine hK19 _ _ ?_
   clear hK19
   refine regt 15 mixed kQ hF hS (sq rfl (q_move rfl) <|
     sq rfl (q_move rfl) <|
     sq rfl (q_subi rfl rfl (by omega)) <|
     sq rfl (q_idx_arr0 ty161 ty137 rfl rfl (by omega)) <|
     sq rfl (q_ld_blkM ty137 0 0 rfl rfl bQ rfl) <|
     sq rfl (q_move rfl) <|
     sq rfl (q_addw rfl rfl) <|
     sq rfl (q_move rfl) <|
     sq rfl (q_subi rfl rfl (by omega)) <|
     sq rfl (q_idx_arr0 ty161 ty137 rfl rfl (by omega)) <|
     sq rfl (q_ld_blkM ty137 0 0 rfl rfl bQ rfl) <|
     sq rfl (q_addw rfl rfl) <|
     sq rfl (q_move rfl) <|
     sq rfl (q_addw rfl rfl) <|
     sq rfl (q_idx_arr0 ty161 ty137 rfl rfl (by omega)) <|
     sq_end) ?_
   clear hF hS; intro a w hF hS
   refine wpl_ef hF hS rfl (ef_st_blkM ty137 0 rfl rfl rfl bQ rfl) ?_
   clear hF hS; rintro _ _ _ a w ⟨rfl, rfl, rfl⟩ hF hS
   replace hS : St _ [] [_, _] _ := hS
   refine wpList_nil ?_
   refine hK7 _ _ ?_
   clear hK7
   refine reg hF hS (sq rfl (q_addi rfl rfl (by omega)) <|
     sq rfl (q_move rfl) <|
     sq_end) ?_
   clear hF hS; intro a w hF hS
   rw [Sha.sch_step bb t (by omega) (by omega)] at hS
   refine ⟨(t + 1), ?_, ?_, hF.sub ⟨rfl, rfl, rfl, rfl, trivial⟩, ?_⟩
   ·(try dsimp only); omega
   ·(try dsimp only); omega
   ·exact hS
 ·obtain rfl : t = 64 := by omega
  rw [show (64 : Int).toNat = 64 from rfl] at hwl
  rw [show (64 : Int).toNat = 64 from rfl, Sha.schW_64] at hS
  have hsl := Sha.sch_len bb 64
  refine wp_exit ?_
  refine hK3 _ _ ?_
  clear hK3
  refine wp_seq_k ?_; intro K20 hK20
  refine regl ?_
  refine wpl_sq hF hS (sq rfl (q_ld_blkW ty161 0 rfl rfl bQ rfl) <|
    sq_end) ?_
  clear hF hS; intro a w hF hS
  refine wpl_ef hF hS rfl (ef_storeW ty161 1 rfl rfl rfl rfl bQ oQ bQ) ?_
  clear hF hS; rintro _ _ _ a w ⟨rfl, rfl, rfl⟩ hF hS
  replace hS : St _ [] [_, _] _ := hS
  refine wpList_nil ?_
  refine hK20 _ _ ?_
  clear hK20
  refine wp_ret ?_
  exact fn_ret (rs := [.cell 2 161]) rfl hF hS (vs := [_]) ⟨⟨_, _, _, _, _, _, _, rfl, List.mem_of_getElem? (i := 1) rfl, ty161, .inl ⟨rfl, bQ, rfl⟩⟩, trivial⟩ zQ zQ (rfl)

set_option maxRecDepth 4000 in
set_option maxHeartbeats 2000000 in
theorem compress_ct (v : Value) (ss : List UInt32) (bb : List UInt8) (hs8 : ss.length = 8) (hl : bb.length = 64) (w : World) (hb : Sl encB (ph w) v bb) {fz1 : Nat × Nat} {bt1 : TypeId} (hg1 : w.heap[2]? = some (.cells (Sha.kc.map vw).toArray bt1 fz1)) : Ct Tryz.prog 102 [.agg (ss.map vw).toArray, v] w (fun r _ _ => r = .agg ((Sha.comp ss bb).map vw).toArray) := by
 refine fn_enter Tryz.func102 rfl Tryz.ntmps102 (Nat.le_of_ble_eq_true rfl) fun a hF hS => ?_
 obtain ⟨a0, a1, a2, a3, a4, a5, a6, a7, rfl⟩ := Sha.list8 hs8
 have hsl := Sha.sch_len bb 64
 have hkl : Sha.kc.length = 64 := rfl
 refine wp_seq_k ?_; intro K1 hK1
 refine regl ?_
 refine wpl_ef hF hS rfl (ef_boxA rfl) ?_
 clear hF hS; rintro _ _ _ a w ⟨b1, rfl, rfl, rfl⟩ hF hS
 refine wpl_ef hF hS rfl (ef_allocA ty146) ?_
 clear hF hS; rintro _ _ _ a w ⟨b2, rfl, rfl, rfl⟩ hF hS
 refine wpList_nil ?_
 refine hK1 _ _ ?_
 clear hK1
 refine wp_seq_k ?_; intro K2 hK2
 refine regl ?_
 refine wpl_sq hF hS (sq rfl (q_move rfl) <|
   sq rfl (q_call fn110 rfl (fun w hS => sched_ct _ _ hl w (Sl.mono (hS.le zin0) hb)) (fun _ _ _ h => h)) <|
   sq_end) ?_
 clear hF hS; intro a w hF hS
 refine wpl_ef hF hS rfl (ef_allocA ty161) ?_
 clear hF hS; rintro _ _ _ a w ⟨b3, rfl, rfl, rfl⟩ hF hS
 rw [show List.replicate 64 (Value.int .u32 0) = (List.replicate 64 (0 : UInt32)).map vw from by rw [List.map_replicate] <;> rfl] at hS
 refine wpl_ef hF hS rfl (ef_storeW ty161 0 rfl rfl rfl rfl bQ oQ bQ) ?_
 clear hF hS; rintro _ _ _ a w ⟨rfl, rfl, rfl⟩ hF hS
 replace hS : St _ [] [_, _, _] _ := hS
 refine wpList_nil ?_
 refine hK2 _ _ ?_
 clear hK2
 refine wp_seq_k ?_; intro K3 hK3
 revert hS; revert hF; apply regJ (J := J2 (α0 := Nat) (α1 := Nat) 116 _ _ _ _ _) #[false, false, false, false, false, false, false, false, false, false] 10 mixed rfl rfl
 ·intro w hF hS
  refine goW_take 0 _ rfl kQ rfl hF (hS.keep sQ (sQ.n.n)) (q_sla_hi ty146 ty137 rfl rfl (by omega)) ?_
  clear hF; intro a hF
  refine goW_take 1 _ rfl kQ rfl hF (hS.keep sQ zQ) (q_s2ap ty167 rfl (by omega)) ?_
  clear hF; intro a hF
  refine goW_take 2 _ rfl kQ rfl hF (hS.keep sQ (sQ.n.n)) (q_ld_blkA ty167 0 rfl rfl rfl (by simp) rfl) ?_
  clear hF; intro a hF
  refine goW_take 3 _ rfl kQ rfl hF (hS.keep sQ (sQ.n.n)) (q_sla_lo ty146 ty137 rfl rfl (by omega)) ?_
  clear hF; intro a hF
  refine goW_take 4 _ rfl kQ rfl hF (hS.keep sQ zQ) (q_s2ap ty167 rfl (by omega)) ?_
  clear hF; intro a hF
  refine goW_take 5 _ rfl kQ rfl hF (hS.keep sQ (sQ.n.n)) (q_ld_blkA ty167 0 rfl rfl rfl (by simp) rfl) ?_
  clear hF; intro a hF
  refine goW_fork [6, 7] kQ rfl ⟨?_, ?_, trivial⟩
  ·refine stepW_ef _ rfl rfl hF hS rfl (ef_allocA ty167) ?_
   clear hF hS; rintro _ _ _ a w ⟨b_2_6, rfl, rfl, rfl⟩ hF hS
   refine ⟨⟨.inr (hS.k1 (sQ.n.n.n)), .inr hS.k0, .inr (hS.k1 (sQ.n.n.n)), .inr (hS.k1 (sQ.n.n.n)), .inr hS.k0, .inr (hS.k1 (sQ.n.n.n)), trivial⟩, ?_⟩
   refine gQ 7 rfl rfl hF hS rfl (ef_allocA ty167) ?_
   clear hF hS; rintro _ _ _ a w ⟨b_2_7, rfl, rfl, rfl⟩ hF hS
   refine ⟨⟨.inr (hS.k1 (sQ.n.n.n.n)), .inr hS.k0, .inr (hS.k1 (sQ.n.n.n.n)), .inr (hS.k1 (sQ.n.n.n.n)), .inr hS.k0, .inr (hS.k1 (sQ.n.n.n.n)), trivial⟩, ?_⟩
   refine gQ 8 rfl rfl hF hS rfl (ef_storeW ty167 1 rfl rfl rfl rfl bQ oQ bQ) ?_
   clear hF hS; rintro _ _ _ a w ⟨rfl, rfl, rfl⟩ hF hS
   refine ⟨⟨.inr (hS.k1 (sQ.n.n.n.n)), .inr hS.k0, .inr (hS.k1 (sQ.n.n.n.n)), iQ, iQ, iQ, trivial⟩, ?_⟩
   refine gQ 9 rfl rfl hF hS rfl (ef_storeW ty167 0 rfl rfl rfl rfl bQ oQ bQ) ?_
   clear hF hS; rintro _ _ _ a w ⟨rfl, rfl, rfl⟩ hF hS
   refine ⟨⟨iQ, iQ, iQ, iQ, iQ, iQ, trivial⟩, ?_⟩
   exact goW_done kQ (j2_mk b_2_6 b_2_7 (trivial) (hF.sub (L' := [(2, _), (4, _), (5, _), (6, _), (7, _)]) ⟨rfl, rfl, rfl, rfl, rfl, trivial⟩) hS)
  ·refine stepW_ef _ rfl rfl hF hS rfl (ef_allocA ty167) ?_
   clear hF hS; rintro _ _ _ a w ⟨b_2_7, rfl, rfl, rfl⟩ hF hS
   refine ⟨⟨.inr (hS.k1 (sQ.n.n.n)), .inr hS.k0, .inr (hS.k1 (sQ.n.n.n)), .inr (hS.k1 (sQ.n.n.n)), .inr hS.k0, .inr (hS.k1 (sQ.n.n.n)), trivial⟩, ?_⟩
   refine gQ 6 rfl rfl hF hS rfl (ef_allocA ty167) ?_
   clear hF hS; rintro _ _ _ a w ⟨b_2_6, rfl, rfl, rfl⟩ hF hS
   refine ⟨⟨.inr (hS.k1 (sQ.n.n.n.n)), .inr hS.k0, .inr (hS.k1 (sQ.n.n.n.n)), .inr (hS.k1 (sQ.n.n.n.n)), .inr hS.k0, .inr (hS.k1 (sQ.n.n.n.n)), trivial⟩, ?_⟩
   refine gQ 8 rfl rfl hF hS rfl (ef_storeW ty167 0 rfl rfl rfl rfl bQ oQ bQ) ?_
   clear hF hS; rintro _ _ _ a w ⟨rfl, rfl, rfl⟩ hF hS
   refine ⟨⟨.inr (hS.k1 (sQ.n.n.n.n)), .inr hS.k0, .inr (hS.k1 (sQ.n.n.n.n)), iQ, iQ, iQ, trivial⟩, ?_⟩
   refine gQ 9 rfl rfl hF hS rfl (ef_storeW ty167 1 rfl rfl rfl rfl bQ oQ bQ) ?_
   clear hF hS; rintro _ _ _ a w ⟨rfl, rfl, rfl⟩ hF hS
   refine ⟨⟨iQ, iQ, iQ, iQ, iQ, iQ, trivial⟩, ?_⟩
   exact goW_done kQ (j2_mk b_2_6 b_2_7 (trivial) (hF.sub (L' := [(2, _), (4, _), (5, _), (6, _), (7, _)]) ⟨rfl, rfl, rfl, rfl, rfl, trivial⟩) (hS.perm (.swap _ _ _)))
 rintro a w ⟨b_2_6, b_2_7, -, hF, hS⟩
 (try dsimp only at hF); (try dsimp only at hS)
 refine hK3 _ _ ?_
 clear hK3
 refine wp_seq_k ?_; intro K4 hK4
 refine wp_seq_k ?_; intro K5 hK5
 refine reg hF hS (sq rfl (q_ld_oldW ty161 rfl hg1 bQ rfl) <|
   sq rfl (q_move rfl) <|
   sq_end) ?_
 clear hF hS; intro a w hF hS
 refine hK5 _ _ ?_
 clear hK5
 refine wp_block ?_
 obtain ⟨hs0, hhs0, hS⟩ : ∃ h, h = _ ∧ St _ _ h _ := ⟨_, rfl, hS⟩
 refine wp_loopx (γ := Int) (0) (fun (i : Int) => [(22, vi i)]) [(2, _), (4, _), (5, _), (6, _), (7, _), (21, _)] (fun (i : Int) => ((hs0.set 1 (.blk b_2_6 167 [vw (Sha.rounds (Sha.sch bb 64) (a0, a1, a2, a3, a4, a5, a6, a7) i.toNat).1, vw (Sha.rounds (Sha.sch bb 64) (a0, a1, a2, a3, a4, a5, a6, a7) i.toNat).2.1, vw (Sha.rounds (Sha.sch bb 64) (a0, a1, a2, a3, a4, a5, a6, a7) i.toNat).2.2.1, vw (Sha.rounds (Sha.sch bb 64) (a0, a1, a2, a3, a4, a5, a6, a7) i.toNat).2.2.2.1])).set 0 (.blk b_2_7 167 [vw (Sha.rounds (Sha.sch bb 64) (a0, a1, a2, a3, a4, a5, a6, a7) i.toNat).2.2.2.2.1, vw (Sha.rounds (Sha.sch bb 64) (a0, a1, a2, a3, a4, a5, a6, a7) i.toNat).2.2.2.2.2.1, vw (Sha.rounds (Sha.sch bb 64) (a0, a1, a2, a3, a4, a5, a6, a7) i.toNat).2.2.2.2.2.2.1, vw (Sha.rounds (Sha.sch bb 64) (a0, a1, a2, a3, a4, a5, a6, a7) i.toNat).2.2.2.2.2.2.2]))) (fun (i : Int) => 0 ≤ i ∧ i ≤ 64) (fun (i : Int) => (64 - i).toNat) (hF.sub ⟨rfl, rfl, rfl, rfl, rfl, rfl, rfl, trivial⟩) (by subst hhs0; exact hS) (by simp) ?_
 clear hF hS; rintro i a w hfact hF hS
 subst hhs0; (try dsimp only at hfact); (try dsimp only at hF); (try dsimp only at hS)
 obtain ⟨hi0, hi1⟩ := hfact
 replace hS : St _ [] [_, _, _, _, _] _ := hS
 refine wp_seq_k ?_; intro K6 hK6
 refine reg hF hS (sq rfl (q_lti rfl rfl) <|
   sq_end) ?_
 clear hF hS; intro a w hF hS
 refine hK6 _ _ ?_
 clear hK6
 refine wp_seq_k ?_; intro K7 hK7
 refine wp_ifd hF rfl (fun hc1 => ?_) (fun hc1 => ?_)
 ·refine wp_skip ?_
  refine hK7 _ _ ?_
  clear hK7
  refine wp_seq_k ?_; intro K8 hK8
  refine wp_block ?_
  refine wp_seq_k ?_; intro K9 hK9
  refine reg hF hS (sq rfl (q_move rfl) <|
    sq rfl (q_idx_aggM ty161 ty137 (0 : UInt32) rfl rfl (by omega) bQ rfl) <|
    sq rfl (q_assign rfl) <|
    sq rfl (q_assign rfl) <|
    sq_end) ?_
  clear hF hS; intro a w hF hS
  refine hK9 _ _ ?_
  clear hK9
  refine wp_seq_k ?_; intro K10 hK10
  refine regd mixed kQ hF hS (sq rfl (q_idx_arr ty167 ty137 rfl rfl (by omega)) <|
    sq rfl (q_ld_blk1 ty137 0 rfl rfl rfl rfl) <|
    sq rfl (q_idx_arr ty167 ty137 rfl rfl (by omega)) <|
    sq rfl (q_ld_blk1 ty137 0 rfl rfl rfl rfl) <|
    sq rfl (q_call fn111 rfl (fun w hS => mix_ct _ _ _ _ (by omega) (by omega) (by omega) w ) (fun _ _ _ h => h)) <|
    sq rfl (q_addw rfl rfl) <|
    sq rfl (q_idx_arr ty167 ty137 rfl rfl (by omega)) <|
    sq rfl (q_ld_blk1 ty137 0 rfl rfl rfl rfl) <|
    sq rfl (q_idx_arr ty167 ty137 rfl rfl (by omega)) <|
    sq rfl (q_ld_blk1 ty137 0 rfl rfl rfl rfl) <|
    sq rfl (q_andw rfl rfl) <|
    sq rfl (q_idx_arr ty167 ty137 rfl rfl (by omega)) <|
    sq rfl (q_ld_blk1 ty137 0 rfl rfl rfl rfl) <|
    sq rfl (q_notw rfl) <|
    sq rfl (q_idx_arr ty167 ty137 rfl rfl (by omega)) <|
    sq rfl (q_ld_blk1 ty137 0 rfl rfl rfl rfl) <|
    sq rfl (q_andw rfl rfl) <|
    sq rfl (q_xorw rfl rfl) <|
    sq rfl (q_addw rfl rfl) <|
    sq rfl (q_move rfl) <|
    sq rfl (q_addw rfl rfl) <|
    sq rfl (q_move rfl) <|
    sq rfl (q_idx_arr0 ty161 ty137 rfl rfl (by omega)) <|
    sq rfl (q_ld_blkM ty137 2 0 rfl rfl bQ rfl) <|
    sq rfl (q_addw rfl rfl) <|
    sq rfl (q_assign rfl) <|
    sq_end) ?_
  clear hF hS; intro a w hF hS
  refine hK10 _ _ ?_
  clear hK10
  refine wp_seq_k ?_; intro K11 hK11
  refine regd mixed kQ hF hS (sq rfl (q_idx_arr ty167 ty137 rfl rfl (by omega)) <|
    sq rfl (q_ld_blk1 ty137 1 rfl rfl rfl rfl) <|
    sq rfl (q_call fn111 rfl (fun w hS => mix_ct _ _ _ _ (by omega) (by omega) (by omega) w ) (fun _ _ _ h => h)) <|
    sq rfl (q_idx_arr ty167 ty137 rfl rfl (by omega)) <|
    sq rfl (q_ld_blk1 ty137 1 rfl rfl rfl rfl) <|
    sq rfl (q_idx_arr ty167 ty137 rfl rfl (by omega)) <|
    sq rfl (q_ld_blk1 ty137 1 rfl rfl rfl rfl) <|
    sq rfl (q_andw rfl rfl) <|
    sq rfl (q_idx_arr ty167 ty137 rfl rfl (by omega)) <|
    sq rfl (q_ld_blk1 ty137 1 rfl rfl rfl rfl) <|
    sq rfl (q_idx_arr ty167 ty137 rfl rfl (by omega)) <|
    sq rfl (q_ld_blk1 ty137 1 rfl rfl rfl rfl) <|
    sq rfl (q_andw rfl rfl) <|
    sq rfl (q_xorw rfl rfl) <|
    sq rfl (q_idx_arr ty167 ty137 rfl rfl (by omega)) <|
    sq rfl (q_ld_blk1 ty137 1 rfl rfl rfl rfl) <|
    sq rfl (q_idx_arr ty167 ty137 rfl rfl (by omega)) <|
    sq rfl (q_ld_blk1 ty137 1 rfl rfl rfl rfl) <|
    sq rfl (q_andw rfl rfl) <|
    sq rfl (q_xorw rfl rfl) <|
    sq rfl (q_addw rfl rfl) <|
    sq rfl (q_assign rfl) <|
    sq_end) ?_
  clear hF hS; intro a w hF hS
  refine hK11 _ _ ?_
  clear hK11
  refine wp_seq_k ?_; intro K12 hK12
  refine regl ?_
  refine wpl_sq hF hS (sq rfl (q_idx_arr ty167 ty137 rfl rfl (by omega)) <|
    sq rfl (q_ld_blk1 ty137 1 rfl rfl rfl rfl) <|
    sq rfl (q_move rfl) <|
    sq rfl (q_addw rfl rfl) <|
    sq rfl (q_idx_arr ty167 ty137 rfl rfl (by omega)) <|
    sq rfl (q_ld_blk1 ty137 0 rfl rfl rfl rfl) <|
    sq rfl (q_idx_arr ty167 ty137 rfl rfl (by omega)) <|
    sq rfl (q_ld_blk1 ty137 0 rfl rfl rfl rfl) <|
    sq rfl (q_idx_arr ty167 ty137 rfl rfl (by omega)) <|
    sq rfl (q_ld_blk1 ty137 0 rfl rfl rfl rfl) <|
    sq rfl (q_buildA1 ty167 ty137 rfl rfl oQ rfl rfl) <|
    sq_end) ?_
  clear hF hS; intro a w hF hS
  refine wpl_ef hF hS rfl (ef_storeW ty167 0 rfl rfl rfl rfl bQ oQ bQ) ?_
  clear hF hS; rintro _ _ _ a w ⟨rfl, rfl, rfl⟩ hF hS
  replace hS : St _ [] [_, _, _, _, _] _ := hS
  refine wpList_nil ?_
  refine hK12 _ _ ?_
  clear hK12
  refine regl ?_
  refine wpl_sq hF hS (sq rfl (q_move rfl) <|
    sq rfl (q_move rfl) <|
    sq rfl (q_addw rfl rfl) <|
    sq rfl (q_idx_arr ty167 ty137 rfl rfl (by omega)) <|
    sq rfl (q_ld_blk1 ty137 1 rfl rfl rfl rfl) <|
    sq rfl (q_idx_arr ty167 ty137 rfl rfl (by omega)) <|
    sq rfl (q_ld_blk1 ty137 1 rfl rfl rfl rfl) <|
    sq rfl (q_idx_arr ty167 ty137 rfl rfl (by omega)) <|
    sq rfl (q_ld_blk1 ty137 1 rfl rfl rfl rfl) <|
    sq rfl (q_buildA1 ty167 ty137 rfl rfl oQ rfl rfl) <|
    sq_end) ?_
  clear hF hS; intro a w hF hS
  refine wpl_ef hF hS rfl (ef_storeW ty167 1 rfl rfl rfl rfl bQ oQ bQ) ?_
  clear hF hS; rintro _ _ _ a w ⟨rfl, rfl, rfl⟩ hF hS
  replace hS : St _ [] [_, _, _, _, _] _ := hS
  refine wpList_nil ?_
  refine hK8 _ _ ?_
  clear hK8
  refine reg hF hS (sq rfl (q_addi rfl rfl (by omega)) <|
    sq rfl (q_move rfl) <|
    sq_end) ?_
  clear hF hS; intro a w hF hS
  refine ⟨(i + 1), ?_, ?_, hF.sub ⟨rfl, rfl, rfl, rfl, rfl, rfl, rfl, trivial⟩, ?_⟩
  ·(try dsimp only); omega
  ·(try dsimp only); omega
  ·rw [Sha.rounds_succ _ _ i hi0]
   exact hS
 ·obtain rfl : i = 64 := by omega
  rw [show (64 : Int).toNat = 64 from rfl] at hS
  generalize hR : Sha.rounds (Sha.sch bb 64) (a0, a1, a2, a3, a4, a5, a6, a7) 64 = R at hS
  obtain ⟨r0, r1, r2, r3, r4, r5, r6, r7⟩ := R
  dsimp only at hS
  refine wp_exit ?_
  refine hK4 _ _ ?_
  clear hK4
  refine wp_seq_k ?_; intro K13 hK13
  refine wp_seq_k ?_; intro K14 hK14
  refine reg hF hS (sq rfl (q_move rfl) <|
    sq_end) ?_
  clear hF hS; intro a w hF hS
  refine hK14 _ _ ?_
  clear hK14
  refine wp_block ?_
  obtain ⟨hs0, hhs0, hS⟩ : ∃ h, h = _ ∧ St _ _ h _ := ⟨_, rfl, hS⟩
  refine wp_loopx (γ := Int) (0) (fun (i : Int) => [(94, vi i)]) [(2, _), (4, _), (6, _), (7, _)] (fun (i : Int) => (((hs0.set 4 (.blk b1 146 ((Sha.upd [a0, a1, a2, a3, a4, a5, a6, a7] [r0, r1, r2, r3, r4, r5, r6, r7] i.toNat).map vw))).set 1 (.blk b_2_6 167 ([r0, r1, r2, r3].map vw))).set 0 (.blk b_2_7 167 ([r4, r5, r6, r7].map vw)))) (fun (i : Int) => 0 ≤ i ∧ i ≤ 4) (fun (i : Int) => (4 - i).toNat) (hF.sub ⟨rfl, rfl, rfl, rfl, rfl, trivial⟩) (by subst hhs0; exact hS) (by simp) ?_
  clear hF hS; rintro i a w hfact hF hS
  subst hhs0; (try dsimp only at hfact); (try dsimp only at hF); (try dsimp only at hS)
  obtain ⟨hi0, hi1⟩ := hfact
  replace hS : St _ [] [_, _, _, _, _] _ := hS
  have hul := Sha.upd_len [a0, a1, a2, a3, a4, a5, a6, a7] [r0, r1, r2, r3, r4, r5, r6, r7] i.toNat
  refine wp_seq_k ?_; intro K15 hK15
  refine reg hF hS (sq rfl (q_lti rfl rfl) <|
    sq_end) ?_
  clear hF hS; intro a w hF hS
  refine hK15 _ _ ?_
  clear hK15
  refine wp_seq_k ?_; intro K16 hK16
  refine wp_ifd hF rfl (fun hc2 => ?_) (fun hc2 => ?_)
  ·refine wp_skip ?_
   refine hK16 _ _ ?_
   clear hK16
   refine wp_seq_k ?_; intro K17 hK17
   refine wp_block ?_
   refine wp_seq_k ?_; intro K18 hK18
   refine reg hF hS (sq rfl (q_move rfl) <|
     sq rfl (q_assign rfl) <|
     sq_end) ?_
   clear hF hS; intro a w hF hS
   refine hK18 _ _ ?_
   clear hK18
   refine wp_seq_k ?_; intro K19 hK19
   refine regt 8 mixed kQ hF hS (sq rfl (q_move rfl) <|
     sq rfl (q_idx_arr0 ty146 ty137 rfl rfl (by omega)) <|
     sq rfl (q_ld_blkM ty137 4 0 rfl rfl bQ rfl) <|
     sq rfl (q_move rfl) <|
     sq rfl (q_idx_arr0 ty167 ty137 rfl rfl (by omega)) <|
     sq rfl (q_ld_blkM ty137 1 0 rfl rfl bQ rfl) <|
     sq rfl (q_addw rfl rfl) <|
     sq rfl (q_idx_arr0 ty146 ty137 rfl rfl (by omega)) <|
     sq_end) ?_
   clear hF hS; intro a w hF hS
   refine wpl_ef hF hS rfl (ef_st_blkM ty137 4 rfl rfl rfl bQ rfl) ?_
   clear hF hS; rintro _ _ _ a w ⟨rfl, rfl, rfl⟩ hF hS
   replace hS : St _ [] [_, _, _, _, _] _ := hS
   refine wpList_nil ?_
   refine hK19 _ _ ?_
   clear hK19
   refine regt 9 mixed kQ hF hS (sq rfl (q_move rfl) <|
     sq rfl (q_addi rfl rfl (by omega)) <|
     sq rfl (q_idx_arr0 ty146 ty137 rfl rfl (by omega)) <|
     sq rfl (q_ld_blkM ty137 4 0 rfl rfl bQ rfl) <|
     sq rfl (q_move rfl) <|
     sq rfl (q_idx_arr0 ty167 ty137 rfl rfl (by omega)) <|
     sq rfl (q_ld_blkM ty137 0 0 rfl rfl bQ rfl) <|
     sq rfl (q_addw rfl rfl) <|
     sq rfl (q_idx_arr0 ty146 ty137 rfl rfl (by omega)) <|
     sq_end) ?_
   clear hF hS; intro a w hF hS
   refine wpl_ef hF hS rfl (ef_st_blkM ty137 4 rfl rfl rfl bQ rfl) ?_
   clear hF hS; rintro _ _ _ a w ⟨rfl, rfl, rfl⟩ hF hS
   replace hS : St _ [] [_, _, _, _, _] _ := hS
   refine wpList_nil ?_
   refine hK17 _ _ ?_
   clear hK17
   refine reg hF hS (sq rfl (q_addi rfl rfl (by omega)) <|
     sq rfl (q_move rfl) <|
     sq_end) ?_
   clear hF hS; intro a w hF hS
   refine ⟨(i + 1), ?_, ?_, hF.sub ⟨rfl, rfl, rfl, rfl, rfl, trivial⟩, ?_⟩
   ·(try dsimp only); omega
   ·(try dsimp only); omega
   ·have h4 : i = 0 ∨ i = 1 ∨ i = 2 ∨ i = 3 := by omega
    rcases h4 with rfl | rfl | rfl | rfl <;> exact hS
  ·obtain rfl : i = 4 := by omega
   have hul4 := Sha.upd_len [a0, a1, a2, a3, a4, a5, a6, a7] [r0, r1, r2, r3, r4, r5, r6, r7] 4
   have hcomp : Sha.comp [a0, a1, a2, a3, a4, a5, a6, a7] bb = Sha.upd [a0, a1, a2, a3, a4, a5, a6, a7] [r0, r1, r2, r3, r4, r5, r6, r7] 4 := by
    show List.zipWith (· + ·) [a0, a1, a2, a3, a4, a5, a6, a7] (Sha.l8 (Sha.rounds (Sha.sch bb 64) (a0, a1, a2, a3, a4, a5, a6, a7) 64)) = _
    rw [hR]
    rfl
   refine wp_exit ?_
   refine hK13 _ _ ?_
   clear hK13
   refine wp_seq_k ?_; intro K20 hK20
   refine regl ?_
   refine wpl_sq hF hS (sq rfl (q_ld_blkW ty146 4 rfl rfl bQ rfl) <|
     sq_end) ?_
   clear hF hS; intro a w hF hS
   refine wpl_ef hF hS rfl (ef_storeW ty146 3 rfl rfl rfl rfl bQ oQ bQ) ?_
   clear hF hS; rintro _ _ _ a w ⟨rfl, rfl, rfl⟩ hF hS
   replace hS : St _ [] [_, _, _, _, _] _ := hS
   refine wpList_nil ?_
   refine hK20 _ _ ?_
   clear hK20
   refine wp_ret ?_
   exact fn_ret (rs := [.cell 4 146]) rfl hF hS (vs := [_]) ⟨⟨_, _, _, _, _, _, _, rfl, List.mem_of_getElem? (i := 3) rfl, ty146, .inl ⟨rfl, bQ, rfl⟩⟩, trivial⟩ zQ zQ (by rw [hcomp]; rfl)
end Go.Proofs.YtibbhobfdbfkkaaGreatDoor
end

section
namespace Go.Proofs.YtibbhobfdbfkkaaGreatDoor
open Go.Fw
theorem ty9 : Tf Tryz.prog 9 .string 1 16 (Value.string ⟨(List.nil : List UInt8).toArray⟩) := ⟨Tryz.underlying9, by kernel_rfl⟩
theorem ty85 : Tf Tryz.prog 85 (.array 64 5) 64 64 (.agg (List.replicate 64 (Value.int .u8 0)).toArray) := ⟨Tryz.underlying85, by kernel_rfl⟩
theorem ty140 : Tf Tryz.prog 140 (.int .u64) 1 8 (Value.int .u64 0) := ⟨Tryz.underlying140, by kernel_rfl⟩
theorem ty148 : Tf Tryz.prog 148 (.struct #[⟨ "state", 146, 0, false, "", "culprit/hash", 0⟩, ⟨ "block", 85, 8, false, "", "culprit/hash", 32⟩, ⟨ "n", 140, 72, false, "", "culprit/hash", 96⟩]) 73 104 (.agg (List.replicate 8 (Value.int .u32 0) ++ List.replicate 64 (Value.int .u8 0) ++ [Value.int .u64 0]).toArray) := ⟨Tryz.underlying148, by kernel_rfl⟩
theorem fn102 : FnOk Tryz.prog 102 := ⟨_, Tryz.func102, rfl, by kernel_rfl⟩

/-- A stream's cells. -/
@[reducible] def stmC (s : Sha.Stm) : List Value := s.st.map vw ++ (s.bl.map vb ++ [vq s.n])

set_option maxRecDepth 4000 in
set_option maxHeartbeats 2000000 in
theorem begin_ct (w : World) : Ct Tryz.prog 92 [] w (fun r _ _ => r = .agg (stmC Sha.begin_).toArray) := by
 refine fn_enter Tryz.func92 rfl Tryz.ntmps92 (Nat.le_of_ble_eq_true rfl) fun a hF hS => ?_
 refine wp_seq_k ?_; intro K1 hK1
 refine regl ?_
 refine wpl_ef hF hS rfl (ef_allocA ty148) ?_
 clear hF hS; rintro _ _ _ a w ⟨b1, rfl, rfl, rfl⟩ hF hS
 refine wpList_nil ?_
 refine hK1 _ _ ?_
 clear hK1
 refine wp_seq_k ?_; intro K2 hK2
 refine regl ?_
 refine wpl_sq hF hS (sq rfl (q_buildA1 ty146 ty137 rfl rfl oQ rfl rfl) <|
   sq rfl (q_build rfl (run_build_struct ty148 (places := [(0, 8), (8, 64), (72, 1)]) kQ (cells := stmC Sha.begin_) kQ)) <|
   sq_end) ?_
 clear hF hS; intro a w hF hS
 refine wpl_ef hF hS rfl (ef_storeW ty148 0 rfl rfl rfl rfl bQ oQ bQ) ?_
 clear hF hS; rintro _ _ _ a w ⟨rfl, rfl, rfl⟩ hF hS
 (try dsimp only [segs] at hS)
 replace hS : St _ [] [_] _ := hS
 refine wpList_nil ?_
 refine hK2 _ _ ?_
 clear hK2
 refine wp_ret ?_
 exact fn_ret (rs := [.cell 0 148]) rfl hF hS (vs := [_]) ⟨⟨_, _, _, _, _, _, _, rfl, List.mem_of_getElem? (i := 0) rfl, ty148, .inl ⟨rfl, bQ, rfl⟩⟩, trivial⟩ zQ zQ (rfl)

set_option maxRecDepth 4000 in
set_option maxHeartbeats 2000000 in
theorem add_ct (s : Sha.Stm) (t : List UInt8) (h8 : s.st.length = 8) (h64 : s.bl.length = 64) (ht : t.length < 1099511627776) (w : World) {fz1 : Nat × Nat} {bt1 : TypeId} (hg1 : w.heap[2]? = some (.cells (Sha.kc.map vw).toArray bt1 fz1)) : Ct Tryz.prog 93 [.agg (stmC s).toArray, vs t] w (fun r _ _ => r = .agg (stmC (Sha.adds s t)).toArray) := by
 refine fn_enter Tryz.func93 rfl Tryz.ntmps93 (Nat.le_of_ble_eq_true rfl) fun a hF hS => ?_
 refine wp_seq_k ?_; intro K1 hK1
 refine regl ?_
 refine wpl_ef hF hS rfl (ef_boxA rfl) ?_
 clear hF hS; rintro _ _ _ a w ⟨b1, rfl, rfl, rfl⟩ hF hS
 refine wpl_ef hF hS rfl (ef_allocA ty148) ?_
 clear hF hS; rintro _ _ _ a w ⟨b2, rfl, rfl, rfl⟩ hF hS
 refine wpList_nil ?_
 refine hK1 _ _ ?_
 clear hK1
 refine wp_seq_k ?_; intro K2 hK2
 refine wp_block ?_
 obtain ⟨hs0, hhs0, hS⟩ : ∃ h, h = _ ∧ St _ _ h _ := ⟨_, rfl, hS⟩
 refine wp_loopx (γ := Sha.Stm × List UInt8) (s, t) (fun (gg : Sha.Stm × List UInt8) => match gg with | (s', t') => [(1, vs t')]) [(2, _), (4, _)] (fun (gg : Sha.Stm × List UInt8) => match gg with | (s', t') => (hs0.set 1 (.blk b1 148 (s'.st.map vw ++ (s'.bl.map vb ++ [vq s'.n]))))) (fun (gg : Sha.Stm × List UInt8) => match gg with | (s', t') => s'.st.length = 8 ∧ s'.bl.length = 64 ∧ t'.length < 1099511627776 ∧ Sha.adds s' t' = Sha.adds s t) (fun (gg : Sha.Stm × List UInt8) => match gg with | (s', t') => t'.length) (hF.sub ⟨rfl, rfl, rfl, trivial⟩) (by subst hhs0; exact hS) (by exact ⟨h8, h64, ht, rfl⟩) ?_
 clear hF hS; rintro ⟨s', t'⟩ a w hfact hF hS
 subst hhs0; (try dsimp only at hfact); (try dsimp only at hF); (try dsimp only at hS)
 obtain ⟨h8, h64, ht, hadd⟩ := hfact
 replace hS : St _ [] [_, _] _ := hS
 refine wp_seq_k ?_; intro K3 hK3
 refine wp_seq_k ?_; intro K4 hK4
 refine reg hF hS (sq rfl (q_move rfl) <|
   sq rfl (q_nes (q := []) rfl rfl) <|
   sq_end) ?_
 clear hF hS; intro a w hF hS
 refine hK4 _ _ ?_
 clear hK4
 refine wp_ifn hF rfl (fun hc1 => ?_) (fun hc1 => ?_)
 ·have htpos : 0 < t'.length := by
   cases t' with
   | nil => exact absurd rfl hc1
   | cons c t => simp
  refine wp_skip ?_
  refine hK3 _ _ ?_
  clear hK3
  refine wp_block ?_
  refine wp_seq_k ?_; intro K5 hK5
  refine reg hF hS (sq rfl (q_fieldAddr ty148 rfl rfl (s' := 0) kQ) <|
    sq rfl (q_ld_seg1 ty140 1 [_, _] rfl rfl bQ rfl) <|
    sq rfl (q_remq (q := 64) rfl rfl (by decide)) <|
    sq rfl (q_cv_qi ty140 ty3 rfl) <|
    sq rfl (q_assign rfl) <|
    sq_end) ?_
  clear hF hS; intro a w hF hS
  rw [Sha.at_sgn s'.n] at hF
  generalize hat : s'.n.toNat % 64 = q at hF
  have hq : q < 64 := by omega
  refine hK5 _ _ ?_
  clear hK5
  refine wp_seq_k ?_; intro K6 hK6
  refine regl ?_
  refine wpl_sq hF hS (sq rfl (q_fieldAddr ty148 rfl rfl (s' := 63) kQ) <|
    sq rfl (q_move rfl) <|
    sq rfl (q_sla_lo ty85 ty5 rfl rfl (by omega)) <|
    sq rfl (q_move rfl) <|
    sq_end) ?_
  clear hF hS; intro a w hF hS
  refine wpl_ef hF hS rfl (ef_copy_segM ty81 ty5 1 [_] rfl rfl rfl bQ bQ) ?_
  clear hF hS; rintro _ _ _ a w ⟨rfl, rfl, rfl⟩ hF hS
  (try dsimp only [segs] at hS)
  replace hS : St _ [] [_, _] _ := hS
  refine wpl_sq hF hS (sq rfl (q_assign rfl) <|
    sq_end) ?_
  clear hF hS; intro a w hF hS
  refine wpList_nil ?_
  simp only [Int.toNat_natCast] at hS hF
  obtain ⟨k, hk⟩ : ∃ k, k = min t'.length (64 - q) := ⟨_, rfl⟩
  rw [← hk] at hS
  rw [show min (t'.length : Int) ((64 - q : Nat) : Int) = (k : Int) by omega] at hF
  have hbl : (List.take q s'.bl ++ (List.take k t' ++ List.drop (q + k) s'.bl)).length = 64 := by simp; omega
  generalize hB : List.take q s'.bl ++ (List.take k t' ++ List.drop (q + k) s'.bl) = B at hS hbl
  refine hK6 _ _ ?_
  clear hK6
  refine wp_seq_k ?_; intro K7 hK7
  refine reg hF hS (sq rfl (q_move rfl) <|
    sq rfl (q_move rfl) <|
    sq rfl (q_sl_s_lo ty9 rfl rfl (by omega)) <|
    sq rfl (q_assign rfl) <|
    sq_end) ?_
  clear hF hS; intro a w hF hS
  simp only [Int.toNat_natCast] at hF
  refine hK7 _ _ ?_
  clear hK7
  refine wp_seq_k ?_; intro K8 hK8
  refine regl ?_
  refine wpl_sq hF hS (sq rfl (q_fieldAddr ty148 rfl rfl (s' := 0) kQ) <|
    sq rfl (q_ld_seg1 ty140 1 [_, _] rfl rfl bQ rfl) <|
    sq rfl (q_move rfl) <|
    sq rfl (q_cv_iq ty3 ty140 rfl) <|
    sq rfl (q_addq rfl rfl) <|
    sq rfl (q_fieldAddr ty148 rfl rfl (s' := 0) kQ) <|
    sq_end) ?_
  clear hF hS; intro a w hF hS
  refine wpl_ef hF hS rfl (ef_st_seg1 ty140 1 [_, _] rfl rfl rfl bQ rfl) ?_
  clear hF hS; rintro _ _ _ a w ⟨rfl, rfl, rfl⟩ hF hS
  (try dsimp only [segs] at hS)
  replace hS : St _ [] [_, _] _ := hS
  refine wpList_nil ?_
  refine hK8 _ _ ?_
  clear hK8
  refine wp_seq_k ?_; intro K9 hK9
  refine reg hF hS (sq rfl (q_move rfl) <|
    sq rfl (q_move rfl) <|
    sq rfl (q_addi rfl rfl (by omega)) <|
    sq rfl (q_eqi rfl rfl) <|
    sq_end) ?_
  clear hF hS; intro a w hF hS
  refine hK9 _ _ ?_
  clear hK9
  refine wp_ifd hF rfl (fun hc2 => ?_) (fun hc2 => ?_)
  ·have hcl := Sha.comp_len s'.st B h8
   refine regt 6 mixed kQ hF hS (sq rfl (q_fieldAddr ty148 rfl rfl (s' := 7) kQ) <|
     sq rfl (q_ld_seg ty146 1 [] rfl rfl bQ bQ rfl) <|
     sq rfl (q_fieldAddr ty148 rfl rfl (s' := 63) kQ) <|
     sq rfl (q_sla ty85 ty5 rfl) <|
     sq rfl (q_call fn102 rfl (fun w hS => compress_ct _ _ _ (by first | assumption | rfl | (simp; done) | (simp; omega)) (by first | assumption | omega | (simp; omega)) w (blk_segV hS 1 [_] rfl bQ (by omega) (by simp)) (hS.ext _ _ hg1)) (fun _ _ _ h => h)) <|
     sq rfl (q_fieldAddr ty148 rfl rfl (s' := 7) kQ) <|
     sq_end) ?_
   clear hF hS; intro a w hF hS
   refine wpl_ef hF hS rfl (ef_st_seg ty146 1 [] rfl rfl rfl bQ bQ bQ (fun _ => rfl)) ?_
   clear hF hS; rintro _ _ _ a w ⟨rfl, rfl, rfl⟩ hF hS
   (try dsimp only [segs] at hS)
   replace hS : St _ [] [_, _] _ := hS
   refine wpList_nil ?_
   refine ⟨(⟨Sha.comp s'.st B, B, s'.n + ofq (k : Int)⟩, t'.drop k), ?_, ?_, hF.sub ⟨rfl, rfl, rfl, trivial⟩, ?_⟩
   ·dsimp only; rw [List.length_drop]; omega
   ·exact ⟨Sha.comp_len _ _ h8, hbl, by rw [List.length_drop]; omega, by rw [← hadd, Sha.adds_chunk s' t' q k hat h64 (by omega) (by omega), if_pos (by omega), hB]⟩
   ·exact hS
  ·refine wp_skip ?_
   refine ⟨(⟨s'.st, B, s'.n + ofq (k : Int)⟩, t'.drop k), ?_, ?_, hF.sub ⟨rfl, rfl, rfl, trivial⟩, ?_⟩
   ·dsimp only; rw [List.length_drop]; omega
   ·exact ⟨h8, hbl, by rw [List.length_drop]; omega, by rw [← hadd, Sha.adds_chunk s' t' q k hat h64 (by omega) (by omega), if_neg (by omega), hB]⟩
   ·exact hS
 ·obtain rfl := hc1
  refine wp_exit ?_
  refine hK2 _ _ ?_
  clear hK2
  refine wp_seq_k ?_; intro K10 hK10
  refine regl ?_
  refine wpl_sq hF hS (sq rfl (q_ld_blkW ty148 1 rfl rfl bQ rfl) <|
    sq_end) ?_
  clear hF hS; intro a w hF hS
  refine wpl_ef hF hS rfl (ef_storeW ty148 0 rfl rfl rfl rfl bQ oQ bQ) ?_
  clear hF hS; rintro _ _ _ a w ⟨rfl, rfl, rfl⟩ hF hS
  (try dsimp only [segs] at hS)
  replace hS : St _ [] [_, _] _ := hS
  refine wpList_nil ?_
  refine hK10 _ _ ?_
  clear hK10
  refine wp_ret ?_
  exact fn_ret (rs := [.cell 4 148]) rfl hF hS (vs := [_]) ⟨⟨_, _, _, _, _, _, _, rfl, List.mem_of_getElem? (i := 0) rfl, ty148, .inl ⟨rfl, bQ, rfl⟩⟩, trivial⟩ zQ zQ (by rw [← hadd]; rfl)
end Go.Proofs.YtibbhobfdbfkkaaGreatDoor
end

section
namespace Go.Proofs.YtibbhobfdbfkkaaGreatDoor
open Go.Fw
theorem ty125 : Tf Tryz.prog 125 (.array 32 5) 32 32 (.agg (List.replicate 32 (Value.int .u8 0)).toArray) := ⟨Tryz.underlying125, by kernel_rfl⟩
theorem fn93 : FnOk Tryz.prog 93 := ⟨_, Tryz.func93, rfl, by kernel_rfl⟩

set_option maxRecDepth 4000 in
set_option maxHeartbeats 2000000 in
theorem ssum_ct (s : Sha.Stm) (h8 : s.st.length = 8) (h64 : s.bl.length = 64) (hn : s.n.toNat < 2199023255552) (w : World) {fz1 : Nat × Nat} {bt1 : TypeId} (hg1 : w.heap[2]? = some (.cells (Sha.kc.map vw).toArray bt1 fz1)) : Ct Tryz.prog 94 [.agg (stmC s).toArray] w (fun r _ _ => r = .agg ((Sha.fin s).map vb).toArray) := by
 refine fn_enter Tryz.func94 rfl Tryz.ntmps94 (Nat.le_of_ble_eq_true rfl) fun a hF hS => ?_
 have hsg : sgn s.n = (s.n.toNat : Int) := by unfold sgn; rw [if_pos (by omega)]
 have hz := Sha.zeros_lt s.n.toNat
 have hbe := Sha.be8_len (8 * s.n)
 refine wp_seq_k ?_; intro K1 hK1
 refine regl ?_
 refine wpl_ef hF hS rfl (ef_boxA rfl) ?_
 clear hF hS; rintro _ _ _ a w ⟨b1, rfl, rfl, rfl⟩ hF hS
 refine wpl_ef hF hS rfl (ef_allocA ty125) ?_
 clear hF hS; rintro _ _ _ a w ⟨b2, rfl, rfl, rfl⟩ hF hS
 rw [show List.replicate 32 (Value.int .u8 0) = (List.replicate 32 (0 : UInt8)).map vb from by rw [List.map_replicate] <;> rfl] at hS
 refine wpList_nil ?_
 refine hK1 _ _ ?_
 clear hK1
 refine wp_seq_k ?_; intro K2 hK2
 refine reg hF hS (sq rfl (q_fieldAddr ty148 rfl rfl (s' := 0) kQ) <|
   sq rfl (q_ld_seg1 ty140 1 [_, _] rfl rfl bQ rfl) <|
   sq rfl (q_mulq (p := 8) rfl rfl) <|
   sq rfl (q_assign rfl) <|
   sq_end) ?_
 clear hF hS; intro a w hF hS
 refine hK2 _ _ ?_
 clear hK2
 refine wp_seq_k ?_; intro K3 hK3
 refine regl ?_
 refine wpl_ef hF hS rfl (ef_bsliceA ty81 ty5 rfl rfl oQ (by decide) rfl rfl) ?_
 clear hF hS; rintro v3 _ _ a w ⟨rfl, rfl⟩ hF hS
 replace hS : St _ [] [_, _, _] _ := hS
 refine wpl_sq hF hS (sq rfl (q_assign rfl) <|
   sq_end) ?_
 clear hF hS; intro a w hF hS
 refine wpList_nil ?_
 refine hK3 _ _ ?_
 clear hK3
 refine wp_seq_k ?_; intro K4 hK4
 refine wp_block ?_
 obtain ⟨hs0, hhs0, hS⟩ : ∃ h, h = _ ∧ St _ _ h _ := ⟨_, rfl, hS⟩
 refine wp_loopx (γ := Value × Nat) (v3, 0) (fun (gg : Value × Nat) => match gg with | (v, j) => [(4, v)]) [(1, _), (2, _), (3, _)] (fun (gg : Value × Nat) => match gg with | (v, j) => (hs0.set 0 (.row v 5 1 (1 + j) ((128 :: List.replicate j (0 : UInt8)).map vb)))) (fun (gg : Value × Nat) => match gg with | (v, j) => j ≤ Sha.zerosFor s.n.toNat) (fun (gg : Value × Nat) => match gg with | (v, j) => Sha.zerosFor s.n.toNat - j) (hF.sub ⟨rfl, rfl, rfl, rfl, trivial⟩) (by subst hhs0; exact hS) (by exact Nat.zero_le _) ?_
 clear hF hS; rintro ⟨v, j⟩ a w hfact hF hS
 subst hhs0; (try dsimp only at hfact); (try dsimp only at hF); (try dsimp only at hS)
 have hj := hfact
 replace hS : St _ [] [_, _, _] _ := hS
 refine wp_seq_k ?_; intro K5 hK5
 refine wp_seq_k ?_; intro K6 hK6
 refine reg hF hS (sq rfl (q_fieldAddr ty148 rfl rfl (s' := 0) kQ) <|
   sq rfl (q_ld_seg1 ty140 2 [_, _] rfl rfl bQ rfl) <|
   sq rfl (q_cv_qi ty140 ty3 rfl) <|
   sq rfl (q_move rfl) <|
   sq rfl (q_len_row ty81 0 rfl rfl) <|
   sq rfl (q_addi rfl rfl (by omega)) <|
   sq rfl (q_remi rfl rfl (by omega)) <|
   sq rfl (q_nei rfl rfl) <|
   sq_end) ?_
 clear hF hS; intro a w hF hS
 refine hK6 _ _ ?_
 clear hK6
 refine wp_ifn hF rfl (fun hc1 => ?_) (fun hc1 => ?_)
 ·have hjl : j < Sha.zerosFor s.n.toNat := by
   have := Sha.zeros_at s.n.toNat
   rcases Nat.lt_or_ge j (Sha.zerosFor s.n.toNat) with h | h
   ·exact h
   ·obtain rfl : j = Sha.zerosFor s.n.toNat := by omega
    omega
  refine wp_skip ?_
  refine hK5 _ _ ?_
  clear hK5
  refine wp_block ?_
  refine regl ?_
  refine wpl_sq hF hS (sq rfl (q_move rfl) <|
    sq_end) ?_
  clear hF hS; intro a w hF hS
  refine wpl_ef hF hS rfl (ef_bsliceA ty81 ty5 rfl rfl oQ (by decide) rfl rfl) ?_
  clear hF hS; rintro v5 _ _ a w ⟨rfl, rfl⟩ hF hS
  replace hS : St _ [] [_, _, _, _] _ := hS
  refine wpl_ef hF hS rfl (ef_append ty81 ty5 1 rfl rfl rfl (src_row ty81 (k := 0) rfl oQ) bQ rfl (by decide)) ?_
  clear hF hS; rintro v7 _ _ a w ⟨rfl, rfl⟩ hF hS
  replace hS : St _ [] [_, _, _, _] _ := hS
  refine wpl_sq hF hS (sq rfl (q_assign rfl) <|
    sq_end) ?_
  clear hF hS; intro a w hF hS
  refine wpList_nil ?_
  replace hS := hS.keep zQ (sQ.n)
  refine ⟨(v7, j + 1), ?_, ?_, hF.sub ⟨rfl, rfl, rfl, rfl, trivial⟩, ?_⟩
  ·(try dsimp only); omega
  ·(try dsimp only); omega
  ·have e : (128 :: List.replicate j (0 : UInt8)).map vb ++ [Value.int .u8 0] = (128 :: List.replicate (j + 1) (0 : UInt8)).map vb := by rw [List.replicate_succ']; simp
   rw [e] at hS
   exact hS
 ·have hjz := Sha.zeros_un s.n.toNat j hj (by omega)
  subst hjz
  refine wp_exit ?_
  refine hK4 _ _ ?_
  clear hK4
  refine wp_seq_k ?_; intro K7 hK7
  refine wp_seq_k ?_; intro K8 hK8
  refine reg hF hS (sq rfl (q_move rfl) <|
    sq_end) ?_
  clear hF hS; intro a w hF hS
  refine hK8 _ _ ?_
  clear hK8
  refine wp_block ?_
  obtain ⟨hs0, hhs0, hS⟩ : ∃ h, h = _ ∧ St _ _ h _ := ⟨_, rfl, hS⟩
  refine wp_loopx (γ := Value × Int) (v, 0) (fun (gg : Value × Int) => match gg with | (v, i) => [(4, v), (23, vi i)]) [(1, _), (2, _), (3, _)] (fun (gg : Value × Int) => match gg with | (v, i) => (hs0.set 0 (.row v 5 1 (1 + Sha.zerosFor s.n.toNat + i.toNat) ((128 :: (List.replicate (Sha.zerosFor s.n.toNat) (0 : UInt8) ++ (Sha.be8 (8 * s.n)).take i.toNat)).map vb)))) (fun (gg : Value × Int) => match gg with | (v, i) => 0 ≤ i ∧ i ≤ 8) (fun (gg : Value × Int) => match gg with | (v, i) => (8 - i).toNat) (hF.sub ⟨rfl, rfl, rfl, rfl, rfl, trivial⟩) (by subst hhs0; simpa using hS) (by simp) ?_
  clear hF hS; rintro ⟨v, i⟩ a w hfact hF hS
  subst hhs0; (try dsimp only at hfact); (try dsimp only at hF); (try dsimp only at hS)
  obtain ⟨hi0, hi1⟩ := hfact
  replace hS : St _ [] [_, _, _] _ := hS
  refine wp_seq_k ?_; intro K9 hK9
  refine reg hF hS (sq rfl (q_lti rfl rfl) <|
    sq_end) ?_
  clear hF hS; intro a w hF hS
  refine hK9 _ _ ?_
  clear hK9
  refine wp_seq_k ?_; intro K10 hK10
  refine wp_ifd hF rfl (fun hc2 => ?_) (fun hc2 => ?_)
  ·refine wp_skip ?_
   refine hK10 _ _ ?_
   clear hK10
   refine wp_seq_k ?_; intro K11 hK11
   refine wp_block ?_
   refine wp_seq_k ?_; intro K12 hK12
   refine reg hF hS (sq rfl (q_move rfl) <|
     sq rfl (q_assign rfl) <|
     sq_end) ?_
   clear hF hS; intro a w hF hS
   refine hK12 _ _ ?_
   clear hK12
   refine regl ?_
   refine wpl_sq hF hS (sq rfl (q_move rfl) <|
     sq rfl (q_move rfl) <|
     sq rfl (q_move rfl) <|
     sq rfl (q_muli rfl rfl (by omega)) <|
     sq rfl (q_subi rfl rfl (by omega)) <|
     sq rfl (q_shrq rfl rfl (by omega)) <|
     sq rfl (q_cv_qb ty140 ty5 rfl) <|
     sq_end) ?_
   clear hF hS; intro a w hF hS
   refine wpl_ef hF hS rfl (ef_bsliceA ty81 ty5 rfl rfl oQ (by decide) rfl rfl) ?_
   clear hF hS; rintro v8 _ _ a w ⟨rfl, rfl⟩ hF hS
   replace hS : St _ [] [_, _, _, _] _ := hS
   refine wpl_ef hF hS rfl (ef_append ty81 ty5 1 rfl rfl rfl (src_row ty81 (k := 0) rfl oQ) bQ rfl (by decide)) ?_
   clear hF hS; rintro v10 _ _ a w ⟨rfl, rfl⟩ hF hS
   replace hS : St _ [] [_, _, _, _] _ := hS
   refine wpl_sq hF hS (sq rfl (q_assign rfl) <|
     sq_end) ?_
   clear hF hS; intro a w hF hS
   refine wpList_nil ?_
   refine hK11 _ _ ?_
   clear hK11
   refine reg hF hS (sq rfl (q_addi rfl rfl (by omega)) <|
     sq rfl (q_move rfl) <|
     sq_end) ?_
   clear hF hS; intro a w hF hS
   replace hS := hS.keep zQ (sQ.n)
   refine ⟨(v10, i + 1), ?_, ?_, hF.sub ⟨rfl, rfl, rfl, rfl, rfl, trivial⟩, ?_⟩
   ·(try dsimp only); omega
   ·(try dsimp only); omega
   ·rw [Sha.byte_q (8 * s.n) i ⟨hi0, by omega⟩] at hS
    have e : (128 :: (List.replicate (Sha.zerosFor s.n.toNat) (0 : UInt8) ++ (Sha.be8 (8 * s.n)).take i.toNat)).map vb ++ [vb (UInt8.ofNat ((8 * s.n).toNat / 2 ^ (56 - 8 * i.toNat)))] = (128 :: (List.replicate (Sha.zerosFor s.n.toNat) (0 : UInt8) ++ (Sha.be8 (8 * s.n)).take (i + 1).toNat)).map vb := by rw [show (i + 1).toNat = i.toNat + 1 by omega, Sha.be8_step _ _ (by omega)]; simp
    rw [e, show 1 + Sha.zerosFor s.n.toNat + i.toNat + 1 = 1 + Sha.zerosFor s.n.toNat + (i + 1).toNat by omega] at hS
    exact hS
  ·obtain rfl : i = 8 := by omega
   rw [show (8 : Int).toNat = 8 from rfl, List.take_of_length_le (by omega)] at hS
   have hpl := Sha.pad_len s.n
   have hal := Sha.adds_len s h8 h64 (Sha.pad s.n)
   change St _ [] [.row _ 5 1 _ ((Sha.pad s.n).map vb), _, _] _ at hS
   refine wp_exit ?_
   refine hK7 _ _ ?_
   clear hK7
   refine wp_seq_k ?_; intro K13 hK13
   refine regl ?_
   refine wpl_sq hF hS (sq rfl (q_ld_blkW ty148 2 rfl rfl bQ rfl) <|
     sq rfl (q_move rfl) <|
     sq rfl (q_b2s_row ty81 ty9 ty5 0 rfl rfl) <|
     sq rfl (q_call fn93 rfl (fun w hS => add_ct _ _ (by first | assumption | rfl | (simp only [*]; done)) (by first | assumption | rfl | (simp only [*]; done)) (by first | assumption | omega | (simp; done) | (simp; omega) | (simp only [*]; omega)) w (hS.ext _ _ hg1)) (fun _ _ _ h => h)) <|
     sq_end) ?_
   clear hF hS; intro a w hF hS
   refine wpl_ef hF hS rfl (ef_storeW ty148 2 rfl rfl rfl rfl bQ oQ bQ) ?_
   clear hF hS; rintro _ _ _ a w ⟨rfl, rfl, rfl⟩ hF hS
   (try dsimp only [segs] at hS)
   replace hS : St _ [] [_, _, _] _ := hS
   refine wpList_nil ?_
   refine hK13 _ _ ?_
   clear hK13
   refine wp_seq_k ?_; intro K14 hK14
   refine regl ?_
   refine wpl_ef hF hS rfl (ef_allocA ty125) ?_
   clear hF hS; rintro _ _ _ a w ⟨b11, rfl, rfl, rfl⟩ hF hS
   rw [show List.replicate 32 (Value.int .u8 0) = (List.replicate 32 (0 : UInt8)).map vb from by rw [List.map_replicate] <;> rfl] at hS
   refine wpList_nil ?_
   refine hK14 _ _ ?_
   clear hK14
   refine wp_seq_k ?_; intro K15 hK15
   refine wp_seq_k ?_; intro K16 hK16
   refine reg hF hS (sq rfl (q_move rfl) <|
     sq_end) ?_
   clear hF hS; intro a w hF hS
   refine hK16 _ _ ?_
   clear hK16
   refine wp_block ?_
   obtain ⟨hs0, hhs0, hS⟩ : ∃ h, h = _ ∧ St _ _ h _ := ⟨_, rfl, hS⟩
   refine wp_loopx (γ := Int) (0) (fun (i : Int) => [(40, vi i)]) [(1, _), (2, _), (6, _)] (fun (i : Int) => (hs0.set 0 (.blk b11 125 ((Sha.outW (Sha.adds s (Sha.pad s.n)).st i.toNat).map vb)))) (fun (i : Int) => 0 ≤ i ∧ i ≤ 32) (fun (i : Int) => (32 - i).toNat) (hF.sub ⟨rfl, rfl, rfl, rfl, trivial⟩) (by subst hhs0; exact hS) (by simp) ?_
   clear hF hS; rintro i a w hfact hF hS
   subst hhs0; (try dsimp only at hfact); (try dsimp only at hF); (try dsimp only at hS)
   obtain ⟨hi0, hi1⟩ := hfact
   replace hS : St _ [] [_, _, _, _] _ := hS
   have hol := Sha.outW_len (Sha.adds s (Sha.pad s.n)).st i.toNat
   refine wp_seq_k ?_; intro K17 hK17
   refine reg hF hS (sq rfl (q_lti rfl rfl) <|
     sq_end) ?_
   clear hF hS; intro a w hF hS
   refine hK17 _ _ ?_
   clear hK17
   refine wp_seq_k ?_; intro K18 hK18
   refine wp_ifd hF rfl (fun hc3 => ?_) (fun hc3 => ?_)
   ·refine wp_skip ?_
    refine hK18 _ _ ?_
    clear hK18
    refine wp_seq_k ?_; intro K19 hK19
    refine wp_block ?_
    refine wp_seq_k ?_; intro K20 hK20
    refine reg hF hS (sq rfl (q_move rfl) <|
      sq rfl (q_assign rfl) <|
      sq_end) ?_
    clear hF hS; intro a w hF hS
    refine hK20 _ _ ?_
    clear hK20
    refine regl ?_
    refine wpl_sq hF hS (sq rfl (q_move rfl) <|
      sq rfl (q_move rfl) <|
      sq rfl (q_quoi rfl rfl (by omega)) <|
      sq rfl (q_fieldAddr ty148 rfl rfl (s' := 7) kQ) <|
      sq rfl (q_idx_arr ty146 ty137 rfl rfl (by omega)) <|
      sq rfl (q_ld_segM ty137 3 [] (0 : UInt32) rfl rfl bQ bQ rfl) <|
      sq rfl (q_move rfl) <|
      sq rfl (q_remi rfl rfl (by omega)) <|
      sq rfl (q_muli rfl rfl (by omega)) <|
      sq rfl (q_subi rfl rfl (by omega)) <|
      sq rfl (q_shrw rfl rfl (by omega)) <|
      sq rfl (q_cv_wb ty137 ty5 rfl) <|
      sq rfl (q_idx_arr0 ty125 ty5 rfl rfl (by omega)) <|
      sq_end) ?_
    clear hF hS; intro a w hF hS
    refine wpl_ef hF hS rfl (ef_st_blkM ty5 0 rfl rfl rfl bQ rfl) ?_
    clear hF hS; rintro _ _ _ a w ⟨rfl, rfl, rfl⟩ hF hS
    replace hS : St _ [] [_, _, _, _] _ := hS
    refine wpList_nil ?_
    refine hK19 _ _ ?_
    clear hK19
    refine reg hF hS (sq rfl (q_addi rfl rfl (by omega)) <|
      sq rfl (q_move rfl) <|
      sq_end) ?_
    clear hF hS; intro a w hF hS
    refine ⟨(i + 1), ?_, ?_, hF.sub ⟨rfl, rfl, rfl, rfl, trivial⟩, ?_⟩
    ·(try dsimp only); omega
    ·(try dsimp only); omega
    ·rw [Sha.byte_w _ i ⟨hi0, by omega⟩, Sha.outW_step _ _ (by omega), show i.toNat + 1 = (i + 1).toNat by omega] at hS
     exact hS
   ·obtain rfl : i = 32 := by omega
    rw [show (32 : Int).toNat = 32 from rfl, Sha.outW_32] at hS
    have hob := Sha.outB_len (Sha.adds s (Sha.pad s.n)).st
    refine wp_exit ?_
    refine hK15 _ _ ?_
    clear hK15
    refine wp_seq_k ?_; intro K21 hK21
    refine regl ?_
    refine wpl_sq hF hS (sq rfl (q_ld_blkW ty125 0 rfl rfl bQ rfl) <|
      sq_end) ?_
    clear hF hS; intro a w hF hS
    refine wpl_ef hF hS rfl (ef_storeW ty125 2 rfl rfl rfl rfl bQ oQ bQ) ?_
    clear hF hS; rintro _ _ _ a w ⟨rfl, rfl, rfl⟩ hF hS
    replace hS : St _ [] [_, _, _, _] _ := hS
    refine wpList_nil ?_
    refine hK21 _ _ ?_
    clear hK21
    refine wp_ret ?_
    exact fn_ret (rs := [.cell 2 125]) rfl hF hS (vs := [_]) ⟨⟨_, _, _, _, _, _, _, rfl, List.mem_of_getElem? (i := 2) rfl, ty125, .inl ⟨rfl, bQ, rfl⟩⟩, trivial⟩ zQ zQ (rfl)
end Go.Proofs.YtibbhobfdbfkkaaGreatDoor
end

section
namespace Go.Proofs.YtibbhobfdbfkkaaGreatDoor
open Go.Fw
theorem fn92 : FnOk Tryz.prog 92 := ⟨_, Tryz.func92, rfl, by kernel_rfl⟩
theorem fn94 : FnOk Tryz.prog 94 := ⟨_, Tryz.func94, rfl, by kernel_rfl⟩

set_option maxRecDepth 4000 in
set_option maxHeartbeats 2000000 in
theorem sum_ct (v : Value) (xs : List UInt8) (hx : xs.length < 1099511627776) (w : World) (hb : Sl encB (ph w) v xs) {fz1 : Nat × Nat} {bt1 : TypeId} (hg1 : w.heap[2]? = some (.cells (Sha.kc.map vw).toArray bt1 fz1)) : Ct Tryz.prog 75 [v] w (fun r _ _ => r = .agg ((Sha.sum xs).map vb).toArray) := by
 refine fn_enter Tryz.func75 rfl Tryz.ntmps75 (Nat.le_of_ble_eq_true rfl) fun a hF hS => ?_
 have hal := Sha.adds_len Sha.begin_ Sha.begin_8 Sha.begin_64 xs
 have han := Sha.adds_nlt Sha.begin_ xs (by rw [Sha.begin_n]; omega)
 rw [Sha.begin_n] at han
 have hsl := Sha.sum_len xs
 have hfl := Sha.fin_len (Sha.adds Sha.begin_ xs)
 refine wp_seq_k ?_; intro K1 hK1
 refine regl ?_
 refine wpl_ef hF hS rfl (ef_allocA ty125) ?_
 clear hF hS; rintro _ _ _ a w ⟨b1, rfl, rfl, rfl⟩ hF hS
 rw [show List.replicate 32 (Value.int .u8 0) = (List.replicate 32 (0 : UInt8)).map vb from by rw [List.map_replicate] <;> rfl] at hS
 refine wpList_nil ?_
 refine hK1 _ _ ?_
 clear hK1
 refine wp_seq_k ?_; intro K2 hK2
 refine regt 5 mixed kQ hF hS (sq rfl (q_call fn92 rfl (fun w hS => begin_ct w ) (fun _ _ _ h => h)) <|
   sq rfl (q_move rfl) <|
   sq rfl (q_b2s_sl ty81 ty9 ty5 hb zin0 rfl) <|
   sq rfl (q_call fn93 rfl (fun w hS => add_ct _ _ (by first | assumption | rfl | (simp only [*]; done)) (by first | assumption | rfl | (simp only [*]; done)) (by first | assumption | omega | (simp; done) | (simp; omega) | (simp only [*]; omega)) w (hS.ext _ _ hg1)) (fun _ _ _ h => h)) <|
   sq rfl (q_call fn94 rfl (fun w hS => ssum_ct _ (by first | assumption | (simp [*]; done)) (by first | assumption | (simp [*]; done)) (by first | assumption | omega) w (hS.ext _ _ hg1)) (fun _ _ _ h => h)) <|
   sq_end) ?_
 clear hF hS; intro a w hF hS
 refine wpl_ef hF hS rfl (ef_storeW ty125 0 rfl rfl rfl rfl bQ oQ bQ) ?_
 clear hF hS; rintro _ _ _ a w ⟨rfl, rfl, rfl⟩ hF hS
 replace hS : St _ [] [_] _ := hS
 refine wpList_nil ?_
 refine hK2 _ _ ?_
 clear hK2
 refine wp_ret ?_
 exact fn_ret (rs := [.cell 2 125]) rfl hF hS (vs := [_]) ⟨⟨_, _, _, _, _, _, _, rfl, List.mem_of_getElem? (i := 0) rfl, ty125, .inl ⟨rfl, bQ, rfl⟩⟩, trivial⟩ zQ zQ (rfl)
end Go.Proofs.YtibbhobfdbfkkaaGreatDoor
end

section
namespace Go.Proofs.YtibbhobfdbfkkaaGreatDoor
open Go.Fw


attribute [local irreducible] Sha.adds Sha.fin Sha.sum Sha.padK Sha.comp Sha.mac Sha.keyOf Sha.sch Sha.rounds Sha.outB
end Go.Proofs.YtibbhobfdbfkkaaGreatDoor
end

section
namespace Go.Proofs.YtibbhobfdbfkkaaGreatDoor
open Go.Fw



end Go.Proofs.YtibbhobfdbfkkaaGreatDoor
end

section
namespace Go.Proofs.YtibbhobfdbfkkaaGreatDoor
open Go.Fw


@[simp] theorem stmC_len (s : Sha.Stm) : (stmC s).length = s.st.length + (s.bl.length + 1) := by simp [stmC]

attribute [local irreducible] Sha.adds Sha.fin Sha.sum Sha.comp Sha.sch Sha.rounds Sha.outB Sha.ofS Sha.ofD Wi.int Wi.bytes
end Go.Proofs.YtibbhobfdbfkkaaGreatDoor
end

section
namespace Go.Proofs.YtibbhobfdbfkkaaGreatDoor
open Go.Fw
theorem fn106 : FnOk Tryz.prog 106 := ⟨_, Tryz.func106, rfl, by kernel_rfl⟩

set_option maxRecDepth 4000 in
set_option maxHeartbeats 2000000 in
theorem rrotr_ct (x : UInt32) (n : Int) (hn : 0 < n ∧ n < 32) (w : World) : Ct Tryz.prog 106 [vw x, vi n] w (fun r _ _ => r = vw (Sha.rotr x (UInt32.ofNat n.toNat))) := by
 refine fn_enter Tryz.func106 rfl Tryz.ntmps106 (Nat.le_of_ble_eq_true rfl) fun a hF hS => ?_
 refine wp_seq_k ?_; intro K1 hK1
 refine reg hF hS (sq rfl (q_assign rfl) <|
   sq_end) ?_
 clear hF hS; intro a w hF hS
 refine hK1 _ _ ?_
 clear hK1
 refine wp_seq_k ?_; intro K2 hK2
 refine regd mixed kQ hF hS (sq rfl (q_move rfl) <|
   sq rfl (q_move rfl) <|
   sq rfl (q_shrw rfl rfl (by omega)) <|
   sq rfl (q_move rfl) <|
   sq rfl (q_move rfl) <|
   sq rfl (q_subi rfl rfl (by omega)) <|
   sq rfl (q_shlw rfl rfl (by omega)) <|
   sq rfl (q_orw rfl rfl) <|
   sq rfl (q_assign rfl) <|
   sq_end) ?_
 clear hF hS; intro a w hF hS
 refine hK2 _ _ ?_
 clear hK2
 refine wp_ret ?_
 exact fn_ret (rs := [.tmp 4]) rfl hF hS (vs := [_]) ⟨rfl, trivial⟩ zQ zQ (by rw [Sha.rotr_q x n hn])

set_option maxRecDepth 4000 in
set_option maxHeartbeats 2000000 in
theorem rpad_ct (v : Value) (xs : List UInt8) (hx : xs.length < 1099511627776) (w : World) (hb : Sl encB (ph w) v xs) : Ct Tryz.prog 104 [v] w (fun r zs hs => ∃ z, Sl encB z r (xs ++ Sha.pad (ofq xs.length)) ∧ zs = [z] ∧ hs = []) := by
 refine fn_enter Tryz.func104 rfl Tryz.ntmps104 (Nat.le_of_ble_eq_true rfl) fun a hF hS => ?_
 have hz := Sha.zeros_lt xs.length
 have hbe := Sha.be8_len (8 * ofq xs.length)
 refine wp_seq_k ?_; intro K1 hK1
 refine reg hF hS (sq rfl (q_assign rfl) <|
   sq_end) ?_
 clear hF hS; intro a w hF hS
 refine hK1 _ _ ?_
 clear hK1
 refine wp_seq_k ?_; intro K2 hK2
 refine regl ?_
 refine wpl_ef hF hS rfl (ef_bslice0 ty81 ty5) ?_
 clear hF hS; rintro v1 _ _ a w ⟨rfl, rfl⟩ hF hS
 replace hS : St _ [] [_] _ := hS
 refine wpl_sq hF hS (sq rfl (q_move rfl) <|
   sq_end) ?_
 clear hF hS; intro a w hF hS
 refine wpl_ef hF hS rfl (ef_append ty81 ty5 0 rfl rfl rfl (src_slV ty81 hb zin0) bQ rfl (by decide)) ?_
 clear hF hS; rintro v3 _ _ a w ⟨rfl, rfl⟩ hF hS
 replace hS : St _ [] [_] _ := hS
 refine wpl_sq hF hS (sq rfl (q_assign rfl) <|
   sq_end) ?_
 clear hF hS; intro a w hF hS
 refine wpList_nil ?_
 refine hK2 _ _ ?_
 clear hK2
 refine wp_seq_k ?_; intro K3 hK3
 refine regl ?_
 refine wpl_sq hF hS (sq rfl (q_move rfl) <|
   sq_end) ?_
 clear hF hS; intro a w hF hS
 refine wpl_ef hF hS rfl (ef_bsliceA ty81 ty5 rfl rfl oQ (by decide) rfl rfl) ?_
 clear hF hS; rintro v4 _ _ a w ⟨rfl, rfl⟩ hF hS
 replace hS : St _ [] [_, _] _ := hS
 refine wpl_ef hF hS rfl (ef_append ty81 ty5 1 rfl rfl rfl (src_row ty81 (k := 0) rfl oQ) bQ rfl (by decide)) ?_
 clear hF hS; rintro v6 _ _ a w ⟨rfl, rfl⟩ hF hS
 replace hS : St _ [] [_, _] _ := hS
 refine wpl_sq hF hS (sq rfl (q_assign rfl) <|
   sq_end) ?_
 clear hF hS; intro a w hF hS
 refine wpList_nil ?_
 refine hK3 _ _ ?_
 clear hK3
 refine wp_seq_k ?_; intro K4 hK4
 refine wp_block ?_
 obtain ⟨hs0, hhs0, hS⟩ : ∃ h, h = _ ∧ St _ _ h _ := ⟨_, rfl, hS⟩
 refine wp_loopx (γ := Value × Nat) (v6, 0) (fun (gg : Value × Nat) => match gg with | (v', j) => [(3, v')]) [(0, _)] (fun (gg : Value × Nat) => match gg with | (v', j) => (hs0.set 1 (.row v' 5 1 (xs.length + (1 + j)) ((xs ++ 128 :: List.replicate j (0 : UInt8)).map vb)))) (fun (gg : Value × Nat) => match gg with | (v', j) => j ≤ Sha.zerosFor xs.length) (fun (gg : Value × Nat) => match gg with | (v', j) => Sha.zerosFor xs.length - j) (hF.sub ⟨rfl, rfl, trivial⟩) (by subst hhs0; simp at hS; simp; exact hS) (by exact Nat.zero_le _) ?_
 clear hF hS; rintro ⟨v', j⟩ a w hfact hF hS
 subst hhs0; (try dsimp only at hfact); (try dsimp only at hF); (try dsimp only at hS)
 have hj := hfact
 replace hS : St _ [] [_, _] _ := hS
 refine wp_seq_k ?_; intro K5 hK5
 refine wp_seq_k ?_; intro K6 hK6
 refine reg hF hS (sq rfl (q_move rfl) <|
   sq rfl (q_len_row ty81 1 rfl rfl) <|
   sq rfl (q_remi rfl rfl (by omega)) <|
   sq rfl (q_nei rfl rfl) <|
   sq_end) ?_
 clear hF hS; intro a w hF hS
 refine hK6 _ _ ?_
 clear hK6
 refine wp_ifn hF rfl (fun hc1 => ?_) (fun hc1 => ?_)
 ·have hjl : j < Sha.zerosFor xs.length := by
   have := Sha.zeros_at xs.length
   rcases Nat.lt_or_ge j (Sha.zerosFor xs.length) with h | h
   ·exact h
   ·obtain rfl : j = Sha.zerosFor xs.length := by omega
    omega
  refine wp_skip ?_
  refine hK5 _ _ ?_
  clear hK5
  refine wp_block ?_
  refine regl ?_
  refine wpl_sq hF hS (sq rfl (q_move rfl) <|
    sq_end) ?_
  clear hF hS; intro a w hF hS
  refine wpl_ef hF hS rfl (ef_bsliceA ty81 ty5 rfl rfl oQ (by decide) rfl rfl) ?_
  clear hF hS; rintro v7 _ _ a w ⟨rfl, rfl⟩ hF hS
  replace hS : St _ [] [_, _, _] _ := hS
  refine wpl_ef hF hS rfl (ef_append ty81 ty5 2 rfl rfl rfl (src_row ty81 (k := 0) rfl oQ) bQ rfl (by decide)) ?_
  clear hF hS; rintro v9 _ _ a w ⟨rfl, rfl⟩ hF hS
  replace hS : St _ [] [_, _, _] _ := hS
  refine wpl_sq hF hS (sq rfl (q_assign rfl) <|
    sq_end) ?_
  clear hF hS; intro a w hF hS
  refine wpList_nil ?_
  replace hS := hS.keep zQ (sQ.n)
  refine ⟨(v9, j + 1), ?_, ?_, hF.sub ⟨rfl, rfl, trivial⟩, ?_⟩
  ·(try dsimp only); omega
  ·(try dsimp only); omega
  ·have e : (xs ++ 128 :: List.replicate j (0 : UInt8)).map vb ++ [Value.int .u8 0] = (xs ++ 128 :: List.replicate (j + 1) (0 : UInt8)).map vb := by rw [List.replicate_succ']; simp
   rw [e] at hS
   exact hS
 ·have hjz := Sha.zeros_un xs.length j hj (by omega)
  subst hjz
  refine wp_exit ?_
  refine hK4 _ _ ?_
  clear hK4
  refine wp_seq_k ?_; intro K7 hK7
  refine reg hF hS (sq rfl (q_move rfl) <|
    sq rfl (q_len_sl ty81 hb rfl) <|
    sq rfl (q_cv_iq ty3 ty140 rfl) <|
    sq rfl (q_mulq (p := 8) rfl rfl) <|
    sq rfl (q_assign rfl) <|
    sq_end) ?_
  clear hF hS; intro a w hF hS
  refine hK7 _ _ ?_
  clear hK7
  refine wp_seq_k ?_; intro K8 hK8
  refine wp_seq_k ?_; intro K9 hK9
  refine reg hF hS (sq rfl (q_assign rfl) <|
    sq_end) ?_
  clear hF hS; intro a w hF hS
  refine hK9 _ _ ?_
  clear hK9
  refine wp_block ?_
  obtain ⟨hs0, hhs0, hS⟩ : ∃ h, h = _ ∧ St _ _ h _ := ⟨_, rfl, hS⟩
  refine wp_loopx (γ := Value × Int) (v', 0) (fun (gg : Value × Int) => match gg with | (v', i) => [(3, v'), (5, vi i)]) [(4, _)] (fun (gg : Value × Int) => match gg with | (v', i) => (hs0.set 1 (.row v' 5 1 (xs.length + (1 + Sha.zerosFor xs.length) + i.toNat) ((xs ++ 128 :: (List.replicate (Sha.zerosFor xs.length) (0 : UInt8) ++ (Sha.be8 (8 * ofq xs.length)).take i.toNat)).map vb)))) (fun (gg : Value × Int) => match gg with | (v', i) => 0 ≤ i ∧ i ≤ 8) (fun (gg : Value × Int) => match gg with | (v', i) => (8 - i).toNat) (hF.sub ⟨rfl, rfl, rfl, trivial⟩) (by subst hhs0; simpa using hS) (by simp) ?_
  clear hF hS; rintro ⟨v', i⟩ a w hfact hF hS
  subst hhs0; (try dsimp only at hfact); (try dsimp only at hF); (try dsimp only at hS)
  obtain ⟨hi0, hi1⟩ := hfact
  replace hS : St _ [] [_, _] _ := hS
  refine wp_seq_k ?_; intro K10 hK10
  refine wp_seq_k ?_; intro K11 hK11
  refine reg hF hS (sq rfl (q_move rfl) <|
    sq rfl (q_lti rfl rfl) <|
    sq_end) ?_
  clear hF hS; intro a w hF hS
  refine hK11 _ _ ?_
  clear hK11
  refine wp_ifd hF rfl (fun hc2 => ?_) (fun hc2 => ?_)
  ·refine wp_skip ?_
   refine hK10 _ _ ?_
   clear hK10
   refine wp_seq_k ?_; intro K12 hK12
   refine wp_block ?_
   refine regl ?_
   refine wpl_sq hF hS (sq rfl (q_move rfl) <|
     sq rfl (q_move rfl) <|
     sq rfl (q_move rfl) <|
     sq rfl (q_muli rfl rfl (by omega)) <|
     sq rfl (q_subi rfl rfl (by omega)) <|
     sq rfl (q_shrq rfl rfl (by omega)) <|
     sq rfl (q_cv_qb ty140 ty5 rfl) <|
     sq_end) ?_
   clear hF hS; intro a w hF hS
   refine wpl_ef hF hS rfl (ef_bsliceA ty81 ty5 rfl rfl oQ (by decide) rfl rfl) ?_
   clear hF hS; rintro v10 _ _ a w ⟨rfl, rfl⟩ hF hS
   replace hS : St _ [] [_, _, _] _ := hS
   refine wpl_ef hF hS rfl (ef_append ty81 ty5 2 rfl rfl rfl (src_row ty81 (k := 0) rfl oQ) bQ rfl (by decide)) ?_
   clear hF hS; rintro v12 _ _ a w ⟨rfl, rfl⟩ hF hS
   replace hS : St _ [] [_, _, _] _ := hS
   refine wpl_sq hF hS (sq rfl (q_assign rfl) <|
     sq_end) ?_
   clear hF hS; intro a w hF hS
   refine wpList_nil ?_
   refine hK12 _ _ ?_
   clear hK12
   refine reg hF hS (sq rfl (q_move rfl) <|
     sq rfl (q_addi rfl rfl (by omega)) <|
     sq rfl (q_assign rfl) <|
     sq_end) ?_
   clear hF hS; intro a w hF hS
   replace hS := hS.keep zQ (sQ.n)
   refine ⟨(v12, i + 1), ?_, ?_, hF.sub ⟨rfl, rfl, rfl, trivial⟩, ?_⟩
   ·(try dsimp only); omega
   ·(try dsimp only); omega
   ·rw [Sha.byte_q (8 * ofq xs.length) i ⟨hi0, by omega⟩] at hS
    have e : (xs ++ 128 :: (List.replicate (Sha.zerosFor xs.length) (0 : UInt8) ++ (Sha.be8 (8 * ofq xs.length)).take i.toNat)).map vb ++ [vb (UInt8.ofNat ((8 * ofq xs.length).toNat / 2 ^ (56 - 8 * i.toNat)))] = (xs ++ 128 :: (List.replicate (Sha.zerosFor xs.length) (0 : UInt8) ++ (Sha.be8 (8 * ofq xs.length)).take (i + 1).toNat)).map vb := by rw [show (i + 1).toNat = i.toNat + 1 by omega, Sha.be8_step _ _ (by omega)]; simp
    rw [e, show xs.length + (1 + Sha.zerosFor xs.length) + i.toNat + 1 = xs.length + (1 + Sha.zerosFor xs.length) + (i + 1).toNat by omega] at hS
    exact hS
  ·obtain rfl : i = 8 := by omega
   rw [show (8 : Int).toNat = 8 from rfl, List.take_of_length_le (by omega)] at hS
   have hqn : (ofq (xs.length : Int)).toNat = xs.length := by have := ofq_toNat (xs.length : Int); omega
   have hpe : 128 :: (List.replicate (Sha.zerosFor xs.length) (0 : UInt8) ++ Sha.be8 (8 * ofq xs.length)) = Sha.pad (ofq xs.length) := by unfold Sha.pad; rw [hqn]
   rw [hpe] at hS
   refine wp_exit ?_
   refine hK8 _ _ ?_
   clear hK8
   refine wp_seq_k ?_; intro K13 hK13
   refine reg hF hS (sq rfl (q_move rfl) <|
     sq rfl (q_assign rfl) <|
     sq_end) ?_
   clear hF hS; intro a w hF hS
   refine hK13 _ _ ?_
   clear hK13
   refine wp_ret ?_
   have hpl : (xs ++ Sha.pad (ofq xs.length)).length = xs.length + (1 + Sha.zerosFor xs.length) + 8 := by rw [← hpe]; simp [Sha.be8_len]; omega
   obtain ⟨z, hz1, hS⟩ := St.freezeB (hS.perm (.swap _ _ _)) hpl.symm (by omega)
   exact fn_ret (rs := [.tmp 2]) rfl hF hS (vs := [_]) ⟨rfl, trivial⟩ (zs' := [z]) (hs' := []) sQ zQ ⟨z, hz1, rfl, rfl⟩

set_option maxRecDepth 4000 in
set_option maxHeartbeats 2000000 in
theorem rwords_ct (v : Value) (bb : List UInt8) (hl : bb.length = 64) (w : World) (hb : Sl encB (ph w) v bb) : Ct Tryz.prog 105 [v] w (fun r _ _ => r = .agg ((Sha.sch bb 64).map vw).toArray) := by
 refine fn_enter Tryz.func105 rfl Tryz.ntmps105 (Nat.le_of_ble_eq_true rfl) fun a hF hS => ?_
 refine wp_seq_k ?_; intro K1 hK1
 refine regl ?_
 refine wpl_ef hF hS rfl (ef_allocA ty161) ?_
 clear hF hS; rintro _ _ _ a w ⟨b1, rfl, rfl, rfl⟩ hF hS
 rw [show List.replicate 64 (Value.int .u32 0) = (List.replicate 64 (0 : UInt32)).map vw from by rw [List.map_replicate] <;> rfl] at hS
 refine wpList_nil ?_
 refine hK1 _ _ ?_
 clear hK1
 refine wp_seq_k ?_; intro K2 hK2
 refine regl ?_
 refine wpl_ef hF hS rfl (ef_allocA ty161) ?_
 clear hF hS; rintro _ _ _ a w ⟨b2, rfl, rfl, rfl⟩ hF hS
 rw [show List.replicate 64 (Value.int .u32 0) = (List.replicate 64 (0 : UInt32)).map vw from by rw [List.map_replicate] <;> rfl] at hS
 refine wpList_nil ?_
 refine hK2 _ _ ?_
 clear hK2
 refine wp_seq_k ?_; intro K3 hK3
 refine wp_seq_k ?_; intro K4 hK4
 refine reg hF hS (sq rfl (q_assign rfl) <|
   sq_end) ?_
 clear hF hS; intro a w hF hS
 refine hK4 _ _ ?_
 clear hK4
 refine wp_block ?_
 obtain ⟨hs0, hhs0, hS⟩ : ∃ h, h = _ ∧ St _ _ h _ := ⟨_, rfl, hS⟩
 refine wp_loopx (γ := Int) (0) (fun (t : Int) => [(4, vi t)]) [(0, _), (2, _), (3, _)] (fun (t : Int) => (hs0.set 0 (.blk b2 161 ((Sha.schW bb t.toNat).map vw)))) (fun (t : Int) => 0 ≤ t ∧ t ≤ 16) (fun (t : Int) => (16 - t).toNat) (hF.sub ⟨rfl, rfl, rfl, rfl, trivial⟩) (by subst hhs0; exact hS) (by simp) ?_
 clear hF hS; rintro t a w hfact hF hS
 subst hhs0; (try dsimp only at hfact); (try dsimp only at hF); (try dsimp only at hS)
 obtain ⟨ht0, ht1⟩ := hfact
 replace hS : St _ [] [_, _] _ := hS
 have hwl := Sha.schW_len bb t.toNat (by omega)
 refine wp_seq_k ?_; intro K5 hK5
 refine wp_seq_k ?_; intro K6 hK6
 refine reg hF hS (sq rfl (q_move rfl) <|
   sq rfl (q_lti rfl rfl) <|
   sq_end) ?_
 clear hF hS; intro a w hF hS
 refine hK6 _ _ ?_
 clear hK6
 refine wp_ifd hF rfl (fun hc1 => ?_) (fun hc1 => ?_)
 ·refine wp_skip ?_
  refine hK5 _ _ ?_
  clear hK5
  refine wp_seq_k ?_; intro K7 hK7
  refine wp_block ?_
  refine regt 35 mixed kQ hF hS (sq rfl (q_move rfl) <|
    sq rfl (q_move rfl) <|
    sq rfl (q_move rfl) <|
    sq rfl (q_muli rfl rfl (by omega)) <|
    sq rfl (q_idx_sl ty81 ty5 hb rfl rfl (by omega)) <|
    sq rfl (q_ld_B ty5 hb zin0 rfl rfl (by omega)) <|
    sq rfl (q_cv_bw ty5 ty137 rfl) <|
    sq rfl (q_shlw rfl rfl (by omega)) <|
    sq rfl (q_move rfl) <|
    sq rfl (q_move rfl) <|
    sq rfl (q_muli rfl rfl (by omega)) <|
    sq rfl (q_addi rfl rfl (by omega)) <|
    sq rfl (q_idx_sl ty81 ty5 hb rfl rfl (by omega)) <|
    sq rfl (q_ld_B ty5 hb zin0 rfl rfl (by omega)) <|
    sq rfl (q_cv_bw ty5 ty137 rfl) <|
    sq rfl (q_shlw rfl rfl (by omega)) <|
    sq rfl (q_orw rfl rfl) <|
    sq rfl (q_move rfl) <|
    sq rfl (q_move rfl) <|
    sq rfl (q_muli rfl rfl (by omega)) <|
    sq rfl (q_addi rfl rfl (by omega)) <|
    sq rfl (q_idx_sl ty81 ty5 hb rfl rfl (by omega)) <|
    sq rfl (q_ld_B ty5 hb zin0 rfl rfl (by omega)) <|
    sq rfl (q_cv_bw ty5 ty137 rfl) <|
    sq rfl (q_shlw rfl rfl (by omega)) <|
    sq rfl (q_orw rfl rfl) <|
    sq rfl (q_move rfl) <|
    sq rfl (q_move rfl) <|
    sq rfl (q_muli rfl rfl (by omega)) <|
    sq rfl (q_addi rfl rfl (by omega)) <|
    sq rfl (q_idx_sl ty81 ty5 hb rfl rfl (by omega)) <|
    sq rfl (q_ld_B ty5 hb zin0 rfl rfl (by omega)) <|
    sq rfl (q_cv_bw ty5 ty137 rfl) <|
    sq rfl (q_orw rfl rfl) <|
    sq rfl (q_idx_arr0 ty161 ty137 rfl rfl (by omega)) <|
    sq_end) ?_
  clear hF hS; intro a w hF hS
  refine wpl_ef hF hS rfl (ef_st_blkM ty137 0 rfl rfl rfl bQ rfl) ?_
  clear hF hS; rintro _ _ _ a w ⟨rfl, rfl, rfl⟩ hF hS
  replace hS : St _ [] [_, _] _ := hS
  refine wpList_nil ?_
  refine hK7 _ _ ?_
  clear hK7
  refine reg hF hS (sq rfl (q_move rfl) <|
    sq rfl (q_addi rfl rfl (by omega)) <|
    sq rfl (q_assign rfl) <|
    sq_end) ?_
  clear hF hS; intro a w hF hS
  refine ⟨(t + 1), ?_, ?_, hF.sub ⟨rfl, rfl, rfl, rfl, trivial⟩, ?_⟩
  ·(try dsimp only); omega
  ·(try dsimp only); omega
  ·rw [Sha.word_step bb t (by omega) (by omega)] at hS
   exact hS
 ·obtain rfl : t = 16 := by omega
  clear hwl
  refine wp_exit ?_
  refine hK3 _ _ ?_
  clear hK3
  refine wp_seq_k ?_; intro K8 hK8
  refine wp_seq_k ?_; intro K9 hK9
  refine reg hF hS (sq rfl (q_assign rfl) <|
    sq_end) ?_
  clear hF hS; intro a w hF hS
  refine hK9 _ _ ?_
  clear hK9
  refine wp_block ?_
  obtain ⟨hs0, hhs0, hS⟩ : ∃ h, h = _ ∧ St _ _ h _ := ⟨_, rfl, hS⟩
  refine wp_loopx (γ := Int) (16) (fun (t : Int) => [(5, vi t)]) [(2, _), (3, _)] (fun (t : Int) => (hs0.set 0 (.blk b2 161 ((Sha.schW bb t.toNat).map vw)))) (fun (t : Int) => 16 ≤ t ∧ t ≤ 64) (fun (t : Int) => (64 - t).toNat) (hF.sub ⟨rfl, rfl, rfl, trivial⟩) (by subst hhs0; exact hS) (by simp) ?_
  clear hF hS; rintro t a w hfact hF hS
  subst hhs0; (try dsimp only at hfact); (try dsimp only at hF); (try dsimp only at hS)
  obtain ⟨ht0, ht1⟩ := hfact
  replace hS : St _ [] [_, _] _ := hS
  have hwl := Sha.schW_len bb t.toNat (by omega)
  refine wp_seq_k ?_; intro K10 hK10
  refine wp_seq_k ?_; intro K11 hK11
  refine reg hF hS (sq rfl (q_move rfl) <|
    sq rfl (q_lti rfl rfl) <|
    sq_end) ?_
  clear hF hS; intro a w hF hS
  refine hK11 _ _ ?_
  clear hK11
  refine wp_ifd hF rfl (fun hc2 => ?_) (fun hc2 => ?_)
  ·refine wp_skip ?_
   refine hK10 _ _ ?_
   clear hK10
   refine wp_seq_k ?_; intro K12 hK12
   refine wp_block ?_
   refine wp_seq_k ?_; intro K13 hK13
   refine regd mixed kQ hF hS (sq rfl (q_move rfl) <|
     sq rfl (q_subi rfl rfl (by omega)) <|
     sq rfl (q_idx_arr0 ty161 ty137 rfl rfl (by omega)) <|
     sq rfl (q_ld_blkM ty137 0 0 rfl rfl bQ rfl) <|
     sq rfl (q_call fn106 rfl (fun w hS => rrotr_ct _ _ (by omega) w ) (fun _ _ _ h => h)) <|
     sq rfl (q_move rfl) <|
     sq rfl (q_subi rfl rfl (by omega)) <|
     sq rfl (q_idx_arr0 ty161 ty137 rfl rfl (by omega)) <|
     sq rfl (q_ld_blkM ty137 0 0 rfl rfl bQ rfl) <|
     sq rfl (q_call fn106 rfl (fun w hS => rrotr_ct _ _ (by omega) w ) (fun _ _ _ h => h)) <|
     sq rfl (q_xorw rfl rfl) <|
     sq rfl (q_move rfl) <|
     sq rfl (q_subi rfl rfl (by omega)) <|
     sq rfl (q_idx_arr0 ty161 ty137 rfl rfl (by omega)) <|
     sq rfl (q_ld_blkM ty137 0 0 rfl rfl bQ rfl) <|
     sq rfl (q_shrw rfl rfl (by omega)) <|
     sq rfl (q_xorw rfl rfl) <|
     sq rfl (q_assign rfl) <|
     sq_end) ?_
   clear hF hS; intro a w hF hS
   refine hK13 _ _ ?_
   clear hK13
   refine wp_seq_k ?_; intro K14 hK14
   refine regd mixed kQ hF hS (sq rfl (q_move rfl) <|
     sq rfl (q_subi rfl rfl (by omega)) <|
     sq rfl (q_idx_arr0 ty161 ty137 rfl rfl (by omega)) <|
     sq rfl (q_ld_blkM ty137 0 0 rfl rfl bQ rfl) <|
     sq rfl (q_call fn106 rfl (fun w hS => rrotr_ct _ _ (by omega) w ) (fun _ _ _ h => h)) <|
     sq rfl (q_move rfl) <|
     sq rfl (q_subi rfl rfl (by omega)) <|
     sq rfl (q_idx_arr0 ty161 ty137 rfl rfl (by omega)) <|
     sq rfl (q_ld_blkM ty137 0 0 rfl rfl bQ rfl) <|
     sq rfl (q_call fn106 rfl (fun w hS => rrotr_ct _ _ (by omega) w ) (fun _ _ _ h => h)) <|
     sq rfl (q_xorw rfl rfl) <|
     sq rfl (q_move rfl) <|
     sq rfl (q_subi rfl rfl (by omega)) <|
     sq rfl (q_idx_arr0 ty161 ty137 rfl rfl (by omega)) <|
     sq rfl (q_ld_blkM ty137 0 0 rfl rfl bQ rfl) <|
     sq rfl (q_shrw rfl rfl (by omega)) <|
     sq rfl (q_xorw rfl rfl) <|
     sq rfl (q_assign rfl) <|
     sq_end) ?_
   clear hF hS; intro a w hF hS
   refine hK14 _ _ ?_
   clear hK14
   refine regt 15 mixed kQ hF hS (sq rfl (q_move rfl) <|
     sq rfl (q_move rfl) <|
     sq rfl (q_subi rfl rfl (by omega)) <|
     sq rfl (q_idx_arr0 ty161 ty137 rfl rfl (by omega)) <|
     sq rfl (q_ld_blkM ty137 0 0 rfl rfl bQ rfl) <|
     sq rfl (q_move rfl) <|
     sq rfl (q_addw rfl rfl) <|
     sq rfl (q_move rfl) <|
     sq rfl (q_subi rfl rfl (by omega)) <|
     sq rfl (q_idx_arr0 ty161 ty137 rfl rfl (by omega)) <|
     sq rfl (q_ld_blkM ty137 0 0 rfl rfl bQ rfl) <|
     sq rfl (q_addw rfl rfl) <|
     sq rfl (q_move rfl) <|
     sq rfl (q_addw rfl rfl) <|
     sq rfl (q_idx_arr0 ty161 ty137 rfl rfl (by omega)) <|
     sq_end) ?_
   clear hF hS; intro a w hF hS
   refine wpl_ef hF hS rfl (ef_st_blkM ty137 0 rfl rfl rfl bQ rfl) ?_
   clear hF hS; rintro _ _ _ a w ⟨rfl, rfl, rfl⟩ hF hS
   replace hS : St _ [] [_, _] _ := hS
   refine wpList_nil ?_
   refine hK12 _ _ ?_
   clear hK12
   refine reg hF hS (sq rfl (q_move rfl) <|
     sq rfl (q_addi rfl rfl (by omega)) <|
     sq rfl (q_assign rfl) <|
     sq_end) ?_
   clear hF hS; intro a w hF hS
   refine ⟨(t + 1), ?_, ?_, hF.sub ⟨rfl, rfl, rfl, trivial⟩, ?_⟩
   ·(try dsimp only); omega
   ·(try dsimp only); omega
   ·rw [Sha.ref_step bb t (by omega) (by omega)] at hS
    exact hS
  ·obtain rfl : t = 64 := by omega
   rw [show (64 : Int).toNat = 64 from rfl] at hwl
   rw [show (64 : Int).toNat = 64 from rfl, Sha.schW_64] at hS
   have hsl := Sha.sch_len bb 64
   refine wp_exit ?_
   refine hK8 _ _ ?_
   clear hK8
   refine wp_seq_k ?_; intro K15 hK15
   refine regl ?_
   refine wpl_sq hF hS (sq rfl (q_ld_blkW ty161 0 rfl rfl bQ rfl) <|
     sq_end) ?_
   clear hF hS; intro a w hF hS
   refine wpl_ef hF hS rfl (ef_storeW ty161 1 rfl rfl rfl rfl bQ oQ bQ) ?_
   clear hF hS; rintro _ _ _ a w ⟨rfl, rfl, rfl⟩ hF hS
   replace hS : St _ [] [_, _] _ := hS
   refine wpList_nil ?_
   refine hK15 _ _ ?_
   clear hK15
   refine wp_ret ?_
   exact fn_ret (rs := [.cell 2 161]) rfl hF hS (vs := [_]) ⟨⟨_, _, _, _, _, _, _, rfl, List.mem_of_getElem? (i := 1) rfl, ty161, .inl ⟨rfl, bQ, rfl⟩⟩, trivial⟩ zQ zQ (rfl)
end Go.Proofs.YtibbhobfdbfkkaaGreatDoor
end

section
namespace Go.Proofs.YtibbhobfdbfkkaaGreatDoor
open Go.Fw
theorem fn104 : FnOk Tryz.prog 104 := ⟨_, Tryz.func104, rfl, by kernel_rfl⟩
theorem fn105 : FnOk Tryz.prog 105 := ⟨_, Tryz.func105, rfl, by kernel_rfl⟩

set_option maxRecDepth 4000 in
set_option maxHeartbeats 2000000 in
theorem rsum_ct (v : Value) (xs : List UInt8) (hx : xs.length < 1099511627776) (w : World) (hb : Sl encB (ph w) v xs) {fz0 : Nat × Nat} {bt0 : TypeId} (hg0 : w.heap[0]? = some (.cells (Sha.kc.map vw).toArray bt0 fz0)) : Ct Tryz.prog 96 [v] w (fun r _ _ => r = .agg ((Sha.sum xs).map vb).toArray) := by
 refine fn_enter Tryz.func96 rfl Tryz.ntmps96 (Nat.le_of_ble_eq_true rfl) fun a hF hS => ?_
 have hsla : ∀ b, (Sha.sch b 64).length = 64 := fun b => Sha.sch_len b 64
 have hkl : Sha.kc.length = 64 := rfl
 have hmp := Sha.mod_pad xs (by omega)
 have hpa := Sha.pad_at xs.length (by omega)
 have hzz := Sha.zeros_lt xs.length
 have hml : (xs ++ Sha.pad (ofq xs.length)).length = xs.length + (1 + Sha.zerosFor xs.length + 8) := by rw [List.length_append, hpa]
 obtain ⟨q, hq⟩ : ∃ q, (xs ++ Sha.pad (ofq xs.length)).length = 64 * q := ⟨(xs ++ Sha.pad (ofq xs.length)).length / 64, by omega⟩
 refine wp_seq_k ?_; intro K1 hK1
 refine regl ?_
 refine wpl_ef hF hS rfl (ef_allocA ty125) ?_
 clear hF hS; rintro _ _ _ a w ⟨b1, rfl, rfl, rfl⟩ hF hS
 rw [show List.replicate 32 (Value.int .u8 0) = (List.replicate 32 (0 : UInt8)).map vb from by rw [List.map_replicate] <;> rfl] at hS
 refine wpList_nil ?_
 refine hK1 _ _ ?_
 clear hK1
 refine wp_seq_k ?_; intro K2 hK2
 refine regl ?_
 refine wpl_sq hF hS (sq rfl (q_buildA1 ty146 ty137 rfl rfl oQ rfl rfl) <|
   sq_end) ?_
 clear hF hS; intro a w hF hS
 refine wpl_ef hF hS rfl (ef_allocA ty146) ?_
 clear hF hS; rintro _ _ _ a w ⟨b2, rfl, rfl, rfl⟩ hF hS
 refine wpl_ef hF hS rfl (ef_storeW ty146 0 rfl rfl rfl rfl bQ oQ bQ) ?_
 clear hF hS; rintro _ _ _ a w ⟨rfl, rfl, rfl⟩ hF hS
 replace hS : St _ [] [_, _] _ := hS
 refine wpList_nil ?_
 refine hK2 _ _ ?_
 clear hK2
 refine wp_seq_k ?_; intro K3 hK3
 refine regl ?_
 refine wpl_sq hF hS (sq rfl (q_move rfl) <|
   sq_end) ?_
 clear hF hS; intro a w hF hS
 refine wpl_ef hF hS rfl (ef_call fn104 rfl (fun w hS => rpad_ct _ _ (by first | assumption | omega) w (Sl.mono (hS.le zin0) hb))) ?_
 clear hF hS; rintro v3 _ _ a w ⟨_, _, rfl, rfl, ⟨z4, hz5, rfl, rfl⟩⟩ hF hS
 replace hS : St _ [_] [_, _] _ := hS
 refine wpl_sq hF hS (sq rfl (q_assign rfl) <|
   sq_end) ?_
 clear hF hS; intro a w hF hS
 refine wpList_nil ?_
 refine hK3 _ _ ?_
 clear hK3
 refine wp_seq_k ?_; intro K4 hK4
 refine wp_seq_k ?_; intro K5 hK5
 refine reg hF hS (sq rfl (q_assign rfl) <|
   sq_end) ?_
 clear hF hS; intro a w hF hS
 refine hK5 _ _ ?_
 clear hK5
 refine wp_block ?_
 obtain ⟨hs0, hhs0, hS⟩ : ∃ h, h = _ ∧ St _ _ h _ := ⟨_, rfl, hS⟩
 refine wp_loopx (γ := Nat) (0) (fun (i : Nat) => [(5, vi (64 * (i : Int)))]) [(2, _), (3, _), (4, _)] (fun (i : Nat) => (hs0.set 0 (.blk b2 146 ((Sha.refS (xs ++ Sha.pad (ofq xs.length)) i).map vw)))) (fun (i : Nat) => i ≤ q) (fun (i : Nat) => q - i) (hF.sub ⟨rfl, rfl, rfl, rfl, trivial⟩) (by subst hhs0; exact hS) (by exact Nat.zero_le _) ?_
 clear hF hS; rintro i a w hfact hF hS
 subst hhs0; (try dsimp only at hfact); (try dsimp only at hF); (try dsimp only at hS)
 have hiq := hfact
 replace hS : St _ [_] [_, _] _ := hS
 have hrl := Sha.refS_len (xs ++ Sha.pad (ofq xs.length)) i
 obtain ⟨a0, a1, a2, a3, a4, a5, a6, a7, hr8⟩ := Sha.list8 hrl
 rw [hr8] at hS
 refine wp_seq_k ?_; intro K6 hK6
 refine wp_seq_k ?_; intro K7 hK7
 refine reg hF hS (sq rfl (q_move rfl) <|
   sq rfl (q_move rfl) <|
   sq rfl (q_len_sl ty81 hz5 rfl) <|
   sq rfl (q_lti rfl rfl) <|
   sq_end) ?_
 clear hF hS; intro a w hF hS
 refine hK7 _ _ ?_
 clear hK7
 refine wp_ifd hF rfl (fun hc1 => ?_) (fun hc1 => ?_)
 ·refine wp_skip ?_
  refine hK6 _ _ ?_
  clear hK6
  refine wp_seq_k ?_; intro K8 hK8
  refine wp_block ?_
  refine wp_seq_k ?_; intro K9 hK9
  refine regl ?_
  refine wpl_sq hF hS (sq rfl (q_move rfl) <|
    sq rfl (q_move rfl) <|
    sq rfl (q_move rfl) <|
    sq rfl (q_addi rfl rfl (by omega)) <|
    sq rfl (q_slsl_lo_hi ty81 ty5 hz5 rfl rfl rfl (by omega)) <|
    sq rfl (q_call fn105 rfl (fun w hS => rwords_ct _ _ (by rw [List.length_drop, List.length_take]; omega) w (Sl.mono (hS.le (.inr (by simp))) (Sl.cut hz5 (by omega)))) (fun _ _ _ h => h)) <|
    sq_end) ?_
  clear hF hS; intro a w hF hS
  refine wpl_ef hF hS rfl (ef_allocA ty161) ?_
  clear hF hS; rintro _ _ _ a w ⟨b6, rfl, rfl, rfl⟩ hF hS
  rw [show List.replicate 64 (Value.int .u32 0) = (List.replicate 64 (0 : UInt32)).map vw from by rw [List.map_replicate] <;> rfl] at hS
  refine wpl_ef hF hS rfl (ef_storeW ty161 0 rfl rfl rfl rfl bQ oQ bQ) ?_
  clear hF hS; rintro _ _ _ a w ⟨rfl, rfl, rfl⟩ hF hS
  replace hS : St _ [_] [_, _, _] _ := hS
  refine wpList_nil ?_
  rw [show (64 * (i : Int)).toNat = 64 * i by omega, show (64 * (i : Int) + 64).toNat = 64 * i + 64 by omega, show List.drop (64 * i) (List.take (64 * i + 64) (xs ++ Sha.pad (ofq xs.length))) = Sha.blkAt (xs ++ Sha.pad (ofq xs.length)) i from rfl] at hS
  have hsl := Sha.sch_len (Sha.blkAt (xs ++ Sha.pad (ofq xs.length)) i) 64
  refine hK9 _ _ ?_
  clear hK9
  refine wp_seq_k ?_; intro K10 hK10
  refine regd mixed kQ hF hS (sq rfl (q_idx_arr ty146 ty137 rfl rfl (by omega)) <|
    sq rfl (q_ld_blk1 ty137 1 rfl rfl rfl rfl) <|
    sq rfl (q_idx_arr ty146 ty137 rfl rfl (by omega)) <|
    sq rfl (q_ld_blk1 ty137 1 rfl rfl rfl rfl) <|
    sq rfl (q_idx_arr ty146 ty137 rfl rfl (by omega)) <|
    sq rfl (q_ld_blk1 ty137 1 rfl rfl rfl rfl) <|
    sq rfl (q_idx_arr ty146 ty137 rfl rfl (by omega)) <|
    sq rfl (q_ld_blk1 ty137 1 rfl rfl rfl rfl) <|
    sq rfl (q_idx_arr ty146 ty137 rfl rfl (by omega)) <|
    sq rfl (q_ld_blk1 ty137 1 rfl rfl rfl rfl) <|
    sq rfl (q_idx_arr ty146 ty137 rfl rfl (by omega)) <|
    sq rfl (q_ld_blk1 ty137 1 rfl rfl rfl rfl) <|
    sq rfl (q_idx_arr ty146 ty137 rfl rfl (by omega)) <|
    sq rfl (q_ld_blk1 ty137 1 rfl rfl rfl rfl) <|
    sq rfl (q_idx_arr ty146 ty137 rfl rfl (by omega)) <|
    sq rfl (q_ld_blk1 ty137 1 rfl rfl rfl rfl) <|
    sq rfl (q_assign rfl) <|
    sq rfl (q_assign rfl) <|
    sq rfl (q_assign rfl) <|
    sq rfl (q_assign rfl) <|
    sq rfl (q_assign rfl) <|
    sq rfl (q_assign rfl) <|
    sq rfl (q_assign rfl) <|
    sq rfl (q_assign rfl) <|
    sq_end) ?_
  clear hF hS; intro a w hF hS
  refine hK10 _ _ ?_
  clear hK10
  refine wp_seq_k ?_; intro K11 hK11
  refine wp_seq_k ?_; intro K12 hK12
  refine reg hF hS (sq rfl (q_assign rfl) <|
    sq_end) ?_
  clear hF hS; intro a w hF hS
  refine hK12 _ _ ?_
  clear hK12
  refine wp_block ?_
  obtain ⟨hs0, hhs0, hS⟩ : ∃ h, h = _ ∧ St _ _ h _ := ⟨_, rfl, hS⟩
  refine wp_loopx (γ := UInt32 × UInt32 × UInt32 × UInt32 × UInt32 × UInt32 × UInt32 × UInt32 × Int) (a0, a1, a2, a3, a4, a5, a6, a7, 0) (fun (gg : UInt32 × UInt32 × UInt32 × UInt32 × UInt32 × UInt32 × UInt32 × UInt32 × Int) => match gg with | (a', b', c', d', e', f', g', k', t) => [(7, vw a'), (8, vw b'), (9, vw c'), (10, vw d'), (11, vw e'), (12, vw f'), (13, vw g'), (14, vw k'), (15, vi t)]) [(2, _), (3, _), (4, _), (5, _), (6, _)] (fun (gg : UInt32 × UInt32 × UInt32 × UInt32 × UInt32 × UInt32 × UInt32 × UInt32 × Int) => match gg with | (a', b', c', d', e', f', g', k', t) => hs0) (fun (gg : UInt32 × UInt32 × UInt32 × UInt32 × UInt32 × UInt32 × UInt32 × UInt32 × Int) => match gg with | (a', b', c', d', e', f', g', k', t) => 0 ≤ t ∧ t ≤ 64 ∧ Sha.rounds (Sha.sch (Sha.blkAt (xs ++ Sha.pad (ofq xs.length)) i) 64) (a0, a1, a2, a3, a4, a5, a6, a7) t.toNat = (a', b', c', d', e', f', g', k')) (fun (gg : UInt32 × UInt32 × UInt32 × UInt32 × UInt32 × UInt32 × UInt32 × UInt32 × Int) => match gg with | (a', b', c', d', e', f', g', k', t) => (64 - t).toNat) (hF.sub ⟨rfl, rfl, rfl, rfl, rfl, rfl, rfl, rfl, rfl, rfl, rfl, rfl, rfl, rfl, trivial⟩) (by subst hhs0; exact hS) (by exact ⟨Int.le_refl _, by omega, rfl⟩) ?_
  clear hF hS; rintro ⟨a', b', c', d', e', f', g', k', t⟩ a w hfact hF hS
  subst hhs0; (try dsimp only at hfact); (try dsimp only at hF); (try dsimp only at hS)
  obtain ⟨ht0, ht1, hR⟩ := hfact
  replace hS : St _ [_] [_, _, _] _ := hS
  refine wp_seq_k ?_; intro K13 hK13
  refine wp_seq_k ?_; intro K14 hK14
  refine reg hF hS (sq rfl (q_move rfl) <|
    sq rfl (q_lti rfl rfl) <|
    sq_end) ?_
  clear hF hS; intro a w hF hS
  refine hK14 _ _ ?_
  clear hK14
  refine wp_ifd hF rfl (fun hc2 => ?_) (fun hc2 => ?_)
  ·refine wp_skip ?_
   refine hK13 _ _ ?_
   clear hK13
   refine wp_seq_k ?_; intro K15 hK15
   refine wp_block ?_
   refine wp_seq_k ?_; intro K16 hK16
   refine regd mixed kQ hF hS (sq rfl (q_move rfl) <|
     sq rfl (q_move rfl) <|
     sq rfl (q_call fn106 rfl (fun w hS => rrotr_ct _ _ (by omega) w ) (fun _ _ _ h => h)) <|
     sq rfl (q_move rfl) <|
     sq rfl (q_call fn106 rfl (fun w hS => rrotr_ct _ _ (by omega) w ) (fun _ _ _ h => h)) <|
     sq rfl (q_xorw rfl rfl) <|
     sq rfl (q_move rfl) <|
     sq rfl (q_call fn106 rfl (fun w hS => rrotr_ct _ _ (by omega) w ) (fun _ _ _ h => h)) <|
     sq rfl (q_xorw rfl rfl) <|
     sq rfl (q_addw rfl rfl) <|
     sq rfl (q_move rfl) <|
     sq rfl (q_move rfl) <|
     sq rfl (q_andw rfl rfl) <|
     sq rfl (q_move rfl) <|
     sq rfl (q_xorw (q := 4294967295) rfl rfl) <|
     sq rfl (q_move rfl) <|
     sq rfl (q_andw rfl rfl) <|
     sq rfl (q_xorw rfl rfl) <|
     sq rfl (q_addw rfl rfl) <|
     sq rfl (q_move rfl) <|
     sq rfl (q_idx_arr0 ty161 ty137 rfl rfl (by omega)) <|
     sq rfl (q_ld_old1M ty137 0 rfl hg0 bQ rfl) <|
     sq rfl (q_addw rfl rfl) <|
     sq rfl (q_move rfl) <|
     sq rfl (q_idx_arr0 ty161 ty137 rfl rfl (by omega)) <|
     sq rfl (q_ld_blkM ty137 0 0 rfl rfl bQ rfl) <|
     sq rfl (q_addw rfl rfl) <|
     sq rfl (q_assign rfl) <|
     sq_end) ?_
   clear hF hS; intro a w hF hS
   refine hK16 _ _ ?_
   clear hK16
   refine wp_seq_k ?_; intro K17 hK17
   refine reg hF hS (sq rfl (q_move rfl) <|
     sq rfl (q_call fn106 rfl (fun w hS => rrotr_ct _ _ (by omega) w ) (fun _ _ _ h => h)) <|
     sq rfl (q_move rfl) <|
     sq rfl (q_call fn106 rfl (fun w hS => rrotr_ct _ _ (by omega) w ) (fun _ _ _ h => h)) <|
     sq rfl (q_xorw rfl rfl) <|
     sq rfl (q_move rfl) <|
     sq rfl (q_call fn106 rfl (fun w hS => rrotr_ct _ _ (by omega) w ) (fun _ _ _ h => h)) <|
     sq rfl (q_xorw rfl rfl) <|
     sq rfl (q_move rfl) <|
     sq rfl (q_move rfl) <|
     sq rfl (q_andw rfl rfl) <|
     sq rfl (q_move rfl) <|
     sq rfl (q_move rfl) <|
     sq rfl (q_andw rfl rfl) <|
     sq rfl (q_xorw rfl rfl) <|
     sq rfl (q_move rfl) <|
     sq rfl (q_move rfl) <|
     sq rfl (q_andw rfl rfl) <|
     sq rfl (q_xorw rfl rfl) <|
     sq rfl (q_addw rfl rfl) <|
     sq rfl (q_assign rfl) <|
     sq_end) ?_
   clear hF hS; intro a w hF hS
   refine hK17 _ _ ?_
   clear hK17
   refine wp_seq_k ?_; intro K18 hK18
   refine reg hF hS (sq rfl (q_move rfl) <|
     sq rfl (q_assign rfl) <|
     sq_end) ?_
   clear hF hS; intro a w hF hS
   refine hK18 _ _ ?_
   clear hK18
   refine wp_seq_k ?_; intro K19 hK19
   refine reg hF hS (sq rfl (q_move rfl) <|
     sq rfl (q_assign rfl) <|
     sq_end) ?_
   clear hF hS; intro a w hF hS
   refine hK19 _ _ ?_
   clear hK19
   refine wp_seq_k ?_; intro K20 hK20
   refine reg hF hS (sq rfl (q_move rfl) <|
     sq rfl (q_assign rfl) <|
     sq_end) ?_
   clear hF hS; intro a w hF hS
   refine hK20 _ _ ?_
   clear hK20
   refine wp_seq_k ?_; intro K21 hK21
   refine reg hF hS (sq rfl (q_move rfl) <|
     sq rfl (q_move rfl) <|
     sq rfl (q_addw rfl rfl) <|
     sq rfl (q_assign rfl) <|
     sq_end) ?_
   clear hF hS; intro a w hF hS
   refine hK21 _ _ ?_
   clear hK21
   refine wp_seq_k ?_; intro K22 hK22
   refine reg hF hS (sq rfl (q_move rfl) <|
     sq rfl (q_assign rfl) <|
     sq_end) ?_
   clear hF hS; intro a w hF hS
   refine hK22 _ _ ?_
   clear hK22
   refine wp_seq_k ?_; intro K23 hK23
   refine reg hF hS (sq rfl (q_move rfl) <|
     sq rfl (q_assign rfl) <|
     sq_end) ?_
   clear hF hS; intro a w hF hS
   refine hK23 _ _ ?_
   clear hK23
   refine wp_seq_k ?_; intro K24 hK24
   refine reg hF hS (sq rfl (q_move rfl) <|
     sq rfl (q_assign rfl) <|
     sq_end) ?_
   clear hF hS; intro a w hF hS
   refine hK24 _ _ ?_
   clear hK24
   refine reg hF hS (sq rfl (q_move rfl) <|
     sq rfl (q_move rfl) <|
     sq rfl (q_addw rfl rfl) <|
     sq rfl (q_assign rfl) <|
     sq_end) ?_
   clear hF hS; intro a w hF hS
   refine hK15 _ _ ?_
   clear hK15
   refine reg hF hS (sq rfl (q_move rfl) <|
     sq rfl (q_addi rfl rfl (by omega)) <|
     sq rfl (q_assign rfl) <|
     sq_end) ?_
   clear hF hS; intro a w hF hS
   simp only [Sha.xor_ff] at hF
   refine ⟨(_, _, _, _, _, _, _, _, t + 1), ?_, ?_, hF.sub ⟨rfl, rfl, rfl, rfl, rfl, rfl, rfl, rfl, rfl, rfl, rfl, rfl, rfl, rfl, trivial⟩, ?_⟩
   ·(try dsimp only); omega
   ·refine ⟨by omega, by omega, ?_⟩
    rw [Sha.rounds_succ _ _ t ht0, hR]
    rfl
   ·exact hS
  ·obtain rfl : t = 64 := by omega
   rw [show (64 : Int).toNat = 64 from rfl] at hR
   refine wp_exit ?_
   refine hK11 _ _ ?_
   clear hK11
   refine regl ?_
   refine wpl_sq hF hS (sq rfl (q_idx_arr ty146 ty137 rfl rfl (by omega)) <|
     sq rfl (q_ld_blk1 ty137 1 rfl rfl rfl rfl) <|
     sq rfl (q_move rfl) <|
     sq rfl (q_addw rfl rfl) <|
     sq rfl (q_idx_arr ty146 ty137 rfl rfl (by omega)) <|
     sq rfl (q_ld_blk1 ty137 1 rfl rfl rfl rfl) <|
     sq rfl (q_move rfl) <|
     sq rfl (q_addw rfl rfl) <|
     sq rfl (q_idx_arr ty146 ty137 rfl rfl (by omega)) <|
     sq rfl (q_ld_blk1 ty137 1 rfl rfl rfl rfl) <|
     sq rfl (q_move rfl) <|
     sq rfl (q_addw rfl rfl) <|
     sq rfl (q_idx_arr ty146 ty137 rfl rfl (by omega)) <|
     sq rfl (q_ld_blk1 ty137 1 rfl rfl rfl rfl) <|
     sq rfl (q_move rfl) <|
     sq rfl (q_addw rfl rfl) <|
     sq rfl (q_idx_arr ty146 ty137 rfl rfl (by omega)) <|
     sq rfl (q_ld_blk1 ty137 1 rfl rfl rfl rfl) <|
     sq rfl (q_move rfl) <|
     sq rfl (q_addw rfl rfl) <|
     sq rfl (q_idx_arr ty146 ty137 rfl rfl (by omega)) <|
     sq rfl (q_ld_blk1 ty137 1 rfl rfl rfl rfl) <|
     sq rfl (q_move rfl) <|
     sq rfl (q_addw rfl rfl) <|
     sq rfl (q_idx_arr ty146 ty137 rfl rfl (by omega)) <|
     sq rfl (q_ld_blk1 ty137 1 rfl rfl rfl rfl) <|
     sq rfl (q_move rfl) <|
     sq rfl (q_addw rfl rfl) <|
     sq rfl (q_idx_arr ty146 ty137 rfl rfl (by omega)) <|
     sq rfl (q_ld_blk1 ty137 1 rfl rfl rfl rfl) <|
     sq rfl (q_move rfl) <|
     sq rfl (q_addw rfl rfl) <|
     sq rfl (q_buildA1 ty146 ty137 rfl rfl oQ rfl rfl) <|
     sq_end) ?_
   clear hF hS; intro a w hF hS
   refine wpl_ef hF hS rfl (ef_storeW ty146 1 rfl rfl rfl rfl bQ oQ bQ) ?_
   clear hF hS; rintro _ _ _ a w ⟨rfl, rfl, rfl⟩ hF hS
   replace hS : St _ [_] [_, _, _] _ := hS
   refine wpList_nil ?_
   refine hK8 _ _ ?_
   clear hK8
   refine reg hF hS (sq rfl (q_move rfl) <|
     sq rfl (q_addi rfl rfl (by omega)) <|
     sq rfl (q_assign rfl) <|
     sq_end) ?_
   clear hF hS; intro a w hF hS
   rw [show (64 * (i : Int) + 64) = 64 * ((i + 1 : Nat) : Int) by omega] at hF
   replace hS := hS.keep sQ (sQ.n)
   refine ⟨(i + 1), ?_, ?_, hF.sub ⟨rfl, rfl, rfl, rfl, trivial⟩, ?_⟩
   ·(try dsimp only); omega
   ·(try dsimp only); omega
   ·have e : Sha.refS (xs ++ Sha.pad (ofq xs.length)) (i + 1) = [a0 + a', a1 + b', a2 + c', a3 + d', a4 + e', a5 + f', a6 + g', a7 + k'] := by
     show Sha.comp (Sha.refS (xs ++ Sha.pad (ofq xs.length)) i) (Sha.blkAt (xs ++ Sha.pad (ofq xs.length)) i) = _
     rw [hr8]
     show List.zipWith (· + ·) [a0, a1, a2, a3, a4, a5, a6, a7] (Sha.l8 (Sha.rounds (Sha.sch (Sha.blkAt (xs ++ Sha.pad (ofq xs.length)) i) 64) (a0, a1, a2, a3, a4, a5, a6, a7) 64)) = _
     rw [hR]
     rfl
    rw [e]
    exact hS
 ·obtain rfl : i = q := by omega
  rw [← hr8] at hS
  have hsr := Sha.sum_ref xs (by omega) i hq
  refine wp_exit ?_
  refine hK4 _ _ ?_
  clear hK4
  refine wp_seq_k ?_; intro K25 hK25
  refine regl ?_
  refine wpl_ef hF hS rfl (ef_allocA ty125) ?_
  clear hF hS; rintro _ _ _ a w ⟨b7, rfl, rfl, rfl⟩ hF hS
  rw [show List.replicate 32 (Value.int .u8 0) = (List.replicate 32 (0 : UInt8)).map vb from by rw [List.map_replicate] <;> rfl] at hS
  refine wpList_nil ?_
  refine hK25 _ _ ?_
  clear hK25
  refine wp_seq_k ?_; intro K26 hK26
  refine wp_seq_k ?_; intro K27 hK27
  refine reg hF hS (sq rfl (q_assign rfl) <|
    sq_end) ?_
  clear hF hS; intro a w hF hS
  refine hK27 _ _ ?_
  clear hK27
  refine wp_block ?_
  obtain ⟨hs0, hhs0, hS⟩ : ∃ h, h = _ ∧ St _ _ h _ := ⟨_, rfl, hS⟩
  refine wp_loopx (γ := Int) (0) (fun (j : Int) => [(19, vi j)]) [(2, _), (3, _), (18, _)] (fun (j : Int) => (hs0.set 0 (.blk b7 125 ((Sha.outW (Sha.refS (xs ++ Sha.pad (ofq xs.length)) i) j.toNat).map vb)))) (fun (j : Int) => 0 ≤ j ∧ j ≤ 32) (fun (j : Int) => (32 - j).toNat) (hF.sub ⟨rfl, rfl, rfl, rfl, trivial⟩) (by subst hhs0; exact hS) (by simp) ?_
  clear hF hS; rintro j a w hfact hF hS
  subst hhs0; (try dsimp only at hfact); (try dsimp only at hF); (try dsimp only at hS)
  obtain ⟨hj0, hj1⟩ := hfact
  replace hS : St _ [_] [_, _, _] _ := hS
  have hol := Sha.outW_len (Sha.refS (xs ++ Sha.pad (ofq xs.length)) i) j.toNat
  have hrq := Sha.refS_len (xs ++ Sha.pad (ofq xs.length)) i
  refine wp_seq_k ?_; intro K28 hK28
  refine wp_seq_k ?_; intro K29 hK29
  refine reg hF hS (sq rfl (q_move rfl) <|
    sq rfl (q_lti rfl rfl) <|
    sq_end) ?_
  clear hF hS; intro a w hF hS
  refine hK29 _ _ ?_
  clear hK29
  refine wp_ifd hF rfl (fun hc3 => ?_) (fun hc3 => ?_)
  ·refine wp_skip ?_
   refine hK28 _ _ ?_
   clear hK28
   refine wp_seq_k ?_; intro K30 hK30
   refine wp_block ?_
   refine regl ?_
   refine wpl_sq hF hS (sq rfl (q_move rfl) <|
     sq rfl (q_move rfl) <|
     sq rfl (q_quoi rfl rfl (by omega)) <|
     sq rfl (q_idx_arr0 ty146 ty137 rfl rfl (by omega)) <|
     sq rfl (q_ld_blkM ty137 1 0 rfl rfl bQ rfl) <|
     sq rfl (q_move rfl) <|
     sq rfl (q_remi rfl rfl (by omega)) <|
     sq rfl (q_muli rfl rfl (by omega)) <|
     sq rfl (q_subi rfl rfl (by omega)) <|
     sq rfl (q_shrw rfl rfl (by omega)) <|
     sq rfl (q_cv_wb ty137 ty5 rfl) <|
     sq rfl (q_idx_arr0 ty125 ty5 rfl rfl (by omega)) <|
     sq_end) ?_
   clear hF hS; intro a w hF hS
   refine wpl_ef hF hS rfl (ef_st_blkM ty5 0 rfl rfl rfl bQ rfl) ?_
   clear hF hS; rintro _ _ _ a w ⟨rfl, rfl, rfl⟩ hF hS
   replace hS : St _ [_] [_, _, _] _ := hS
   refine wpList_nil ?_
   refine hK30 _ _ ?_
   clear hK30
   refine reg hF hS (sq rfl (q_move rfl) <|
     sq rfl (q_addi rfl rfl (by omega)) <|
     sq rfl (q_assign rfl) <|
     sq_end) ?_
   clear hF hS; intro a w hF hS
   refine ⟨(j + 1), ?_, ?_, hF.sub ⟨rfl, rfl, rfl, rfl, trivial⟩, ?_⟩
   ·(try dsimp only); omega
   ·(try dsimp only); omega
   ·rw [Sha.byte_w _ j ⟨hj0, by omega⟩, Sha.outW_step _ _ (by omega), show j.toNat + 1 = (j + 1).toNat by omega] at hS
    exact hS
  ·obtain rfl : j = 32 := by omega
   rw [show (32 : Int).toNat = 32 from rfl, Sha.outW_32, ← hsr] at hS
   have hob := Sha.sum_len xs
   refine wp_exit ?_
   refine hK26 _ _ ?_
   clear hK26
   refine wp_seq_k ?_; intro K31 hK31
   refine regl ?_
   refine wpl_sq hF hS (sq rfl (q_ld_blkW ty125 0 rfl rfl bQ rfl) <|
     sq_end) ?_
   clear hF hS; intro a w hF hS
   refine wpl_ef hF hS rfl (ef_storeW ty125 2 rfl rfl rfl rfl bQ oQ bQ) ?_
   clear hF hS; rintro _ _ _ a w ⟨rfl, rfl, rfl⟩ hF hS
   replace hS : St _ [_] [_, _, _] _ := hS
   refine wpList_nil ?_
   refine hK31 _ _ ?_
   clear hK31
   refine wp_ret ?_
   exact fn_ret (rs := [.cell 2 125]) rfl hF hS (vs := [_]) ⟨⟨_, _, _, _, _, _, _, rfl, List.mem_of_getElem? (i := 2) rfl, ty125, .inl ⟨rfl, bQ, rfl⟩⟩, trivial⟩ zQ zQ (rfl)
end Go.Proofs.YtibbhobfdbfkkaaGreatDoor
end

section
namespace Go.Proofs.YtibbhobfdbfkkaaGreatDoor
open Go.Fw



end Go.Proofs.YtibbhobfdbfkkaaGreatDoor
end

section
namespace Go.Proofs.YtibbhobfdbfkkaaGreatDoor
open Go.Fw


attribute [local irreducible] Sha.sum Sha.keyOf Sha.padK Sha.mac
end Go.Proofs.YtibbhobfdbfkkaaGreatDoor
end

section
namespace Go.Proofs.YtibbhobfdbfkkaaGreatDoor
open Go.Fw


attribute [local irreducible] Sha.sum Sha.keyOf Sha.padK Sha.mac
end Go.Proofs.YtibbhobfdbfkkaaGreatDoor
end

section
namespace Go.Proofs.YtibbhobfdbfkkaaGreatDoor
open Go.Fw


attribute [local irreducible] Sha.sum Sha.cpW
end Go.Proofs.YtibbhobfdbfkkaaGreatDoor
end

section
namespace Go.Proofs.YtibbhobfdbfkkaaGreatDoor
open Go.Fw



end Go.Proofs.YtibbhobfdbfkkaaGreatDoor
end

section
namespace Go.Proofs.YtibbhobfdbfkkaaGreatDoor
open Go.Fw


attribute [local irreducible] Sha.sum Wi.int
end Go.Proofs.YtibbhobfdbfkkaaGreatDoor
end

section
namespace Go.Proofs.YtibbhobfdbfkkaaGreatDoor
open Go.Fw


attribute [local irreducible] Sha.sum Wi.int Wi.bytes Sha.inp
end Go.Proofs.YtibbhobfdbfkkaaGreatDoor
end
