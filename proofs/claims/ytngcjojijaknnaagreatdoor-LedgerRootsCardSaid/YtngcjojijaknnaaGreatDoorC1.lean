/- A text of a proof over this seat: walks over the program's functions and the plain laws that they need. -/
import Derived.Test.YtngcjojijaknnaaGreatDoorFwB
import Derived.Test.YtngcjojijaknnaaGreatDoorFwD
import Derived.Test.YtngcjojijaknnaaGreatDoorDkA
import Derived.Test.YtngcjojijaknnaaGreatDoorGuA
import Derived.Test.YtngcjojijaknnaaGreatDoorShW
import Derived.Test.YtngcjojijaknnaaGreatDoorJnA
import Derived.Test.YtngcjojijaknnaaGreatDoorLlay
import Derived.Test.YtngcjojijaknnaaGreatDoorChecked
import Derived.Shelf.SortM.Plain
import Derived.Shelf.SortM.SortNone
set_option linter.all false
namespace Go.Proofs.YtngcjojijaknnaaGreatDoor
open Go.Fw
set_option maxRecDepth 4000
set_option maxHeartbeats 2000000
section
theorem mixed : Tryz.prog.follows .mixedOrders = true := by kernel_rfl
theorem ty3 : Tf Tryz.prog 3 (.int .i64) 1 8 (Value.int .i64 0) := ⟨Tryz.underlying3, by kernel_rfl⟩
theorem ty5 : Tf Tryz.prog 5 (.int .u8) 1 1 (Value.int .u8 0) := ⟨Tryz.underlying5, by kernel_rfl⟩
theorem ty25 : Tf Tryz.prog 25 (.slice 5) 1 24 (Value.slice none 0 0) := ⟨Tryz.underlying25, by kernel_rfl⟩
theorem ty113 : Tf Tryz.prog 113 (.int .u64) 1 8 (Value.int .u64 0) := ⟨Tryz.underlying113, by kernel_rfl⟩
theorem ty220 : Tf Tryz.prog 220 (.int .u32) 1 4 (Value.int .u32 0) := ⟨Tryz.underlying220, by kernel_rfl⟩
theorem ty221 : Tf Tryz.prog 221 (.array 8 220) 8 32 (.agg (List.replicate 8 (Value.int .u32 0)).toArray) := ⟨Tryz.underlying221, by kernel_rfl⟩
theorem ty239 : Tf Tryz.prog 239 (.array 64 220) 64 256 (.agg (List.replicate 64 (Value.int .u32 0)).toArray) := ⟨Tryz.underlying239, by kernel_rfl⟩
theorem ty263 : Tf Tryz.prog 263 (.array 4 220) 4 16 (.agg ([Value.int .u32 0, Value.int .u32 0, Value.int .u32 0, Value.int .u32 0]).toArray) := ⟨Tryz.underlying263, by kernel_rfl⟩
theorem fn186 : FnOk Tryz.prog 186 := fQ Tryz.func186
theorem fn187 : FnOk Tryz.prog 187 := fQ Tryz.func187
theorem fn203 : FnOk Tryz.prog 203 := fQ Tryz.func203
theorem rot_ct (x : UInt32) (k : Int) (w : World) : Ct Tryz.prog 203 [vw x, vi k] w (fun v _ _ => v = vw (Sha.rotl x k)) := by
 refine fn_enter Tryz.func203 rfl Tryz.ntmps203 (Nat.le_of_ble_eq_true rfl) fun a hF hS => ?_
 have hk := (ofq k &&& 31)
 refine regS hF hS (aQ rfl <| sq_end) fun a w hF hS => ?_
 refine regS hF hS (mQ rfl <| q0 (q_cv_iq ty3 ty113 rfl) <| q0 (q_andq (q := 31) rfl rfl) <| aQ rfl <| sq_end) fun a w hF hS => ?_
 refine regS hF hS (mQ rfl <| mQ rfl <| q0 (q_shlw rfl rfl (by omega)) <| mQ rfl <| mQ rfl <| q0 (q_subq (p := 32) rfl rfl) <| q0 (q_shrw rfl rfl (by omega)) <| q0 (q_orw rfl rfl) <| aQ rfl <| sq_end) fun a w hF hS => ?_
 refine wp_ret ?_
 exact fn_ret (rs := [.tmp 4]) rfl hF hS (vs := [_]) ⟨rfl, trivial⟩ zQ zQ (rfl)
theorem mix_ct (x : UInt32) (i j k : Int) (hi : 0 < i ∧ i < 32) (hj : 0 < j ∧ j < 32) (hk : 0 < k ∧ k < 32) (w : World) : Ct Tryz.prog 187 [vw x, vi i, vi j, vi k] w (fun v _ _ => v = vw (Sha.rotr x (UInt32.ofNat i.toNat) ^^^ Sha.rotr x (UInt32.ofNat j.toNat) ^^^ Sha.rotr x (UInt32.ofNat k.toNat))) := by
 refine fn_enter Tryz.func187 rfl Tryz.ntmps187 (Nat.le_of_ble_eq_true rfl) fun a hF hS => ?_
 refine regS hF hS (aQ rfl <| sq_end) fun a w hF hS => ?_
 refine regS hF hS (mQ rfl <| mQ rfl <| q0 (q_negi rfl (by omega)) <| q0 (q_call fn203 rfl (fun w hS => rot_ct _ _ w ) (fun _ _ _ h => h)) <| mQ rfl <| mQ rfl <| q0 (q_negi rfl (by omega)) <| q0 (q_call fn203 rfl (fun w hS => rot_ct _ _ w ) (fun _ _ _ h => h)) <| q0 (q_xorw rfl rfl) <| mQ rfl <| mQ rfl <| q0 (q_negi rfl (by omega)) <| q0 (q_call fn203 rfl (fun w hS => rot_ct _ _ w ) (fun _ _ _ h => h)) <| q0 (q_xorw rfl rfl) <| aQ rfl <| sq_end) fun a w hF hS => ?_
 refine wp_ret ?_
 exact fn_ret (rs := [.tmp 8]) rfl hF hS (vs := [_]) ⟨rfl, trivial⟩ zQ zQ (by rw [Sha.mix_rotr x i j k hi hj hk])
theorem sched_ct (v : Value) (bb : List UInt8) (hl : bb.length = 64) (w : World) (hb : Sl encB (ph w) v bb) : Ct Tryz.prog 186 [v] w (fun r _ _ => r = .agg ((Sha.sch bb 64).map vw).toArray) := by
 refine fn_enter Tryz.func186 rfl Tryz.ntmps186 (Nat.le_of_ble_eq_true rfl) fun a hF hS => ?_
 have hb := hb
 refine reglS fun K1 hK1 => ?_
 refine eQ hF hS rfl (ef_allocA ty239) ?_
 rintro _ _ _ a w ⟨b1, rfl, rfl, rfl⟩ hF hS
 rw [show List.replicate 64 (Value.int .u32 0) = (List.replicate 64 (0 : UInt32)).map vw from by rw [List.map_replicate] <;> rfl] at hS
 refine wpList_nil (hK1 _ _ ?_)
 refine reglS fun K2 hK2 => ?_
 refine eQ hF hS rfl (ef_allocA ty239) ?_
 rintro _ _ _ a w ⟨b2, rfl, rfl, rfl⟩ hF hS
 rw [show List.replicate 64 (Value.int .u32 0) = (List.replicate 64 (0 : UInt32)).map vw from by rw [List.map_replicate] <;> rfl] at hS
 refine wpList_nil (hK2 _ _ ?_)
 refine k0 ?_; intro K3 hK3
 refine regS hF hS (mQ rfl <| sq_end) fun a w hF hS => ?_
 refine wp_block ?_
 obtain ⟨hs0, hhs0, hS⟩ := hS.oh
 refine wp_loopx (γ := Int) (0) (fun (t : Int) => [(11, vi t)]) [(0, _), (2, _), (3, _)] (fun (t : Int) => (hs0.set 0 (.blk b2 239 ((Sha.schW bb t.toNat).map vw)))) (fun (t : Int) => 0 ≤ t ∧ t ≤ 64) (fun (t : Int) => (64 - t).toNat) (hF.sub ⟨rfl, rfl, rfl, rfl, trivial⟩) (by subst hhs0; exact hS) (by simp) ?_
 rintro t a w hfact hF hS
 subst hhs0; (try dsimp only at hfact hF hS)
 obtain ⟨ht0, ht1⟩ := hfact
 replace hS := nl0_2 hS
 have hwl := Sha.schW_len bb t.toNat (by omega)
 refine regS hF hS (q0 (q_lti rfl rfl) <| sq_end) fun a w hF hS => ?_
 refine k0 ?_; intro K6 hK6
 refine wp_ifd hF rfl (fun hc1 => ?_) (fun hc1 => ?_)
 ·refine wp_skip ?_
  refine hK6 _ _ ?_
  refine k0 ?_; intro K7 hK7
  refine wp_block ?_
  refine regS hF hS (mQ rfl <| aQ rfl <| sq_end) fun a w hF hS => ?_
  refine k0 ?_; intro K9 hK9
  refine regS hF hS (mQ rfl <| q0 (q_lti rfl rfl) <| sq_end) fun a w hF hS => ?_
  refine wp_ifd hF rfl (fun hc2 => ?_) (fun hc2 => ?_)
  ·refine k0 ?_; intro K11 hK11
   refine k0 ?_; intro K12 hK12
   refine reg hF hS (mQ rfl <| mQ rfl <| q0 (q_muli rfl rfl (by omega)) <| mQ rfl <| q0 (q_muli rfl rfl (by omega)) <| pQ rfl rfl <| q0 (q_slsl_lo_hi ty25 ty5 hb rfl rfl rfl (by omega)) <| q0 (q_len_sl ty25 (Sl.cut hb (by omega)) rfl) <| mQ rfl <| sq_end) fun a w hF hS => ?_
   have hlen : (((bb.take (4 * t + 4).toNat).drop (4 * t).toNat).length : Int) = 4 := by simp; omega
   refine hK12 _ _ ?_
   refine wp_block ?_
   obtain ⟨hs0, hhs0, hS⟩ := hS.oh
   refine wp_loopx (γ := Int) (0) (fun (j : Int) => [(24, vi j)]) [(0, _), (2, _), (3, _), (4, _), (11, _), (22, _), (23, _)] (fun (j : Int) => (hs0.set 0 (.blk b2 239 ((Sha.schA bb t.toNat j.toNat).map vw)))) (fun (j : Int) => 0 ≤ j ∧ j ≤ 4) (fun (j : Int) => (4 - j).toNat) (hF.sub ⟨rfl, rfl, rfl, rfl, rfl, rfl, rfl, rfl, trivial⟩) (by subst hhs0; rw [Sha.schW_A bb t.toNat (by omega)] at hS; exact hS) (by simp) ?_
   rintro j a w hfact hF hS
   subst hhs0; (try dsimp only at hfact hF hS)
   obtain ⟨hj0, hj1⟩ := hfact
   replace hS := nl0_2 hS
   have hal := Sha.schA_len bb t.toNat j.toNat (by omega)
   refine regS hF hS (q0 (q_lti rfl rfl) <| sq_end) fun a w hF hS => ?_
   refine k0 ?_; intro K14 hK14
   refine wp_ifd hF rfl (fun hc3 => ?_) (fun hc3 => ?_)
   ·refine wp_skip ?_
    refine hK14 _ _ ?_
    refine k0 ?_; intro K15 hK15
    refine wp_block ?_
    refine regS hF hS (q0 (q_idx_sl ty25 ty5 (Sl.cut hb (by omega)) rfl rfl (by omega)) <| q0 (q_ld_B ty5 (Sl.cut hb (by omega)) zin0 rfl rfl (by omega)) <| aQ rfl <| sq_end) fun a w hF hS => ?_
    refine regl ?_
    refine lQ hF hS (mQ rfl <| mQ rfl <| q0 (q_idx_arr0 ty239 ty220 rfl rfl (by omega)) <| q0 (q_ld_blkM ty220 0 0 rfl rfl bQ rfl) <| q0 (q_shlw rfl rfl (by omega)) <| mQ rfl <| q0 (q_cv_bw ty5 ty220 rfl) <| q0 (q_orw rfl rfl) <| q0 (q_idx_arr0 ty239 ty220 rfl rfl (by omega)) <| sq_end) fun a w hF hS => ?_
    refine eQ hF hS rfl (ef_st_blkM ty220 0 rfl rfl rfl bQ rfl) ?_
    rintro _ _ _ a w ⟨rfl, rfl, rfl⟩ hF hS
    replace hS := nl0_2 hS
    refine wpList_nil (hK15 _ _ ?_)
    refine reg hF hS (pQ rfl rfl <| mQ rfl <| sq_end) fun a w hF hS => ?_
    rw [Sha.acc_step bb t j (by omega) (by omega) (by omega) (by omega) hl] at hS
    refine ⟨(j + 1), ?_, ?_, hF.sub ⟨rfl, rfl, rfl, rfl, rfl, rfl, rfl, rfl, trivial⟩, ?_⟩
    ·(try dsimp only); omega
    ·(try dsimp only); omega
    ·exact hS
   ·refine wp_exit ?_
    refine hK11 _ _ ?_
    refine wp_exit ?_
    refine hK7 _ _ ?_
    refine reg hF hS (pQ rfl rfl <| mQ rfl <| sq_end) fun a w hF hS => ?_
    have hj : j = 4 := by omega
    subst hj
    rw [show (4 : Int).toNat = 4 from rfl, Sha.schA_end bb t.toNat (by omega), show t.toNat + 1 = (t + 1).toNat by omega] at hS
    refine ⟨(t + 1), ?_, ?_, hF.sub ⟨rfl, rfl, rfl, rfl, trivial⟩, ?_⟩
    ·(try dsimp only); omega
    ·(try dsimp only); omega
    ·exact hS
  ·refine wp_skip ?_
   refine hK9 _ _ ?_
   refine regdS mixed kQ hF hS (mQ rfl <| dQ rfl rfl <| q0 (q_idx_arr0 ty239 ty220 rfl rfl (by omega)) <| q0 (q_ld_blkM ty220 0 0 rfl rfl bQ rfl) <| mQ rfl <| dQ rfl rfl <| q0 (q_idx_arr0 ty239 ty220 rfl rfl (by omega)) <| q0 (q_ld_blkM ty220 0 0 rfl rfl bQ rfl) <| aQ rfl <| aQ rfl <| sq_end) fun a w hF hS => ?_
   refine regS hF hS (mQ rfl <| q0 (q_call fn203 rfl (fun w hS => rot_ct _ _ w ) (fun _ _ _ h => h)) <| mQ rfl <| q0 (q_call fn203 rfl (fun w hS => rot_ct _ _ w ) (fun _ _ _ h => h)) <| q0 (q_xorw rfl rfl) <| mQ rfl <| q0 (q_shrw rfl rfl (by omega)) <| q0 (q_xorw rfl rfl) <| aQ rfl <| sq_end) fun a w hF hS => ?_
   refine regS hF hS (mQ rfl <| q0 (q_call fn203 rfl (fun w hS => rot_ct _ _ w ) (fun _ _ _ h => h)) <| mQ rfl <| q0 (q_call fn203 rfl (fun w hS => rot_ct _ _ w ) (fun _ _ _ h => h)) <| q0 (q_xorw rfl rfl) <| mQ rfl <| q0 (q_shrw rfl rfl (by omega)) <| q0 (q_xorw rfl rfl) <| aQ rfl <| sq_end) fun a w hF hS => ?_
   refine regt 15 mixed kQ hF hS (mQ rfl <| mQ rfl <| dQ rfl rfl <| q0 (q_idx_arr0 ty239 ty220 rfl rfl (by omega)) <| q0 (q_ld_blkM ty220 0 0 rfl rfl bQ rfl) <| mQ rfl <| q0 (q_addw rfl rfl) <| mQ rfl <| dQ rfl rfl <| q0 (q_idx_arr0 ty239 ty220 rfl rfl (by omega)) <| q0 (q_ld_blkM ty220 0 0 rfl rfl bQ rfl) <| q0 (q_addw rfl rfl) <| mQ rfl <| q0 (q_addw rfl rfl) <| q0 (q_idx_arr0 ty239 ty220 rfl rfl (by omega)) <| sq_end) fun a w hF hS => ?_
   refine eQ hF hS rfl (ef_st_blkM ty220 0 rfl rfl rfl bQ rfl) ?_
   rintro _ _ _ a w ⟨rfl, rfl, rfl⟩ hF hS
   replace hS := nl0_2 hS
   refine wpList_nil (hK7 _ _ ?_)
   refine reg hF hS (pQ rfl rfl <| mQ rfl <| sq_end) fun a w hF hS => ?_
   rw [Sha.sch_step bb t (by omega) (by omega)] at hS
   refine ⟨(t + 1), ?_, ?_, hF.sub ⟨rfl, rfl, rfl, rfl, trivial⟩, ?_⟩
   ·(try dsimp only); omega
   ·(try dsimp only); omega
   ·exact hS
 ·obtain rfl : t = 64 := by omega
  rw [show (64 : Int).toNat = 64 from rfl] at hwl
  rw [show (64 : Int).toNat = 64 from rfl, Sha.schW_64] at hS
  have hsl := Sha.sch_len bb 64
  refine wp_exit ?_
  refine hK3 _ _ ?_
  refine reglS fun K20 hK20 => ?_
  refine lQ hF hS (q0 (q_ld_blkW ty239 0 rfl rfl bQ rfl) <| sq_end) fun a w hF hS => ?_
  refine eQ hF hS rfl (ef_storeW ty239 1 rfl rfl rfl rfl bQ oQ bQ) ?_
  rintro _ _ _ a w ⟨rfl, rfl, rfl⟩ hF hS
  replace hS := nl0_2 hS
  refine wpList_nil (hK20 _ _ ?_)
  refine wp_ret ?_
  exact fn_ret (rs := [.cell 2 239]) rfl hF hS (vs := [_]) ⟨⟨_, _, _, _, _, _, _, rfl, List.mem_of_getElem? (i := 1) rfl, ty239, .inl ⟨rfl, bQ, rfl⟩⟩, trivial⟩ zQ zQ (rfl)
theorem compress_ct (v : Value) (ss : List UInt32) (bb : List UInt8) (hs8 : ss.length = 8) (hl : bb.length = 64) (w : World) (hb : Sl encB (ph w) v bb) {fz1 : Nat × Nat} {bt1 : TypeId} (hg1 : w.heap[1]? = some (.cells (Sha.kc.map vw).toArray bt1 fz1)) : Ct Tryz.prog 167 [.agg (ss.map vw).toArray, v] w (fun r _ _ => r = .agg ((Sha.comp ss bb).map vw).toArray) := by
 refine fn_enter Tryz.func167 rfl Tryz.ntmps167 (Nat.le_of_ble_eq_true rfl) fun a hF hS => ?_
 obtain ⟨a0, a1, a2, a3, a4, a5, a6, a7, rfl⟩ := Sha.list8 hs8
 have hsl := Sha.sch_len bb 64
 have hkl : Sha.kc.length = 64 := rfl
 refine reglS fun K1 hK1 => ?_
 refine eQ hF hS rfl (ef_boxA rfl) ?_
 rintro _ _ _ a w ⟨b1, rfl, rfl, rfl⟩ hF hS
 refine eQ hF hS rfl (ef_allocA ty221) ?_
 rintro _ _ _ a w ⟨b2, rfl, rfl, rfl⟩ hF hS
 refine wpList_nil (hK1 _ _ ?_)
 refine reglS fun K2 hK2 => ?_
 refine lQ hF hS (mQ rfl <| q0 (q_call fn186 rfl (fun w hS => sched_ct _ _ hl w (Sl.mono (hS.le zin0) hb)) (fun _ _ _ h => h)) <| sq_end) fun a w hF hS => ?_
 refine eQ hF hS rfl (ef_allocA ty239) ?_
 rintro _ _ _ a w ⟨b3, rfl, rfl, rfl⟩ hF hS
 rw [show List.replicate 64 (Value.int .u32 0) = (List.replicate 64 (0 : UInt32)).map vw from by rw [List.map_replicate] <;> rfl] at hS
 refine eQ hF hS rfl (ef_storeW ty239 0 rfl rfl rfl rfl bQ oQ bQ) ?_
 rintro _ _ _ a w ⟨rfl, rfl, rfl⟩ hF hS
 replace hS := nl0_3 hS
 refine wpList_nil (hK2 _ _ ?_)
 refine k0 ?_; intro K3 hK3
 revert hS; revert hF; apply regJ (J := J2 (α0 := Nat) (α1 := Nat) 116 _ _ _ _ _) #[false, false, false, false, false, false, false, false, false, false] 10 mixed rfl rfl
 ·intro w hF hS
  refine tQ 0 rfl hF (hS.keep sQ (sQ.n.n)) (q_sla_hi ty221 ty220 rfl rfl (by omega)) fun a hF => ?_
  refine tQ 1 rfl hF (hS.keep sQ zQ) (q_s2ap ty263 rfl (by omega)) fun a hF => ?_
  refine tQ 2 rfl hF (hS.keep sQ (sQ.n.n)) (q_ld_blkA ty263 0 rfl rfl rfl (by simp) rfl) fun a hF => ?_
  refine tQ 3 rfl hF (hS.keep sQ (sQ.n.n)) (q_sla_lo ty221 ty220 rfl rfl (by omega)) fun a hF => ?_
  refine tQ 4 rfl hF (hS.keep sQ zQ) (q_s2ap ty263 rfl (by omega)) fun a hF => ?_
  refine tQ 5 rfl hF (hS.keep sQ (sQ.n.n)) (q_ld_blkA ty263 0 rfl rfl rfl (by simp) rfl) fun a hF => ?_
  refine goW_fork [6, 7] kQ rfl ⟨?_, ?_, trivial⟩
  ·refine stepW_ef _ rfl rfl hF hS rfl (ef_allocA ty263) ?_
   rintro _ _ _ a w ⟨b_2_6, rfl, rfl, rfl⟩ hF hS
   refine ⟨⟨.inr (hS.k1 (sQ.n.n.n)), .inr hS.k0, .inr (hS.k1 (sQ.n.n.n)), .inr (hS.k1 (sQ.n.n.n)), .inr hS.k0, .inr (hS.k1 (sQ.n.n.n)), trivial⟩, ?_⟩
   refine gQ 7 rfl rfl hF hS rfl (ef_allocA ty263) ?_
   rintro _ _ _ a w ⟨b_2_7, rfl, rfl, rfl⟩ hF hS
   refine ⟨⟨.inr (hS.k1 (sQ.n.n.n.n)), .inr hS.k0, .inr (hS.k1 (sQ.n.n.n.n)), .inr (hS.k1 (sQ.n.n.n.n)), .inr hS.k0, .inr (hS.k1 (sQ.n.n.n.n)), trivial⟩, ?_⟩
   refine gQ 8 rfl rfl hF hS rfl (ef_storeW ty263 1 rfl rfl rfl rfl bQ oQ bQ) ?_
   rintro _ _ _ a w ⟨rfl, rfl, rfl⟩ hF hS
   refine ⟨⟨.inr (hS.k1 (sQ.n.n.n.n)), .inr hS.k0, .inr (hS.k1 (sQ.n.n.n.n)), iQ, iQ, iQ, trivial⟩, ?_⟩
   refine gQ 9 rfl rfl hF hS rfl (ef_storeW ty263 0 rfl rfl rfl rfl bQ oQ bQ) ?_
   rintro _ _ _ a w ⟨rfl, rfl, rfl⟩ hF hS
   refine ⟨⟨iQ, iQ, iQ, iQ, iQ, iQ, trivial⟩, ?_⟩
   exact goW_done kQ (j2_mk b_2_6 b_2_7 (trivial) (hF.sub (L' := [(2, _), (4, _), (5, _), (6, _), (7, _)]) ⟨rfl, rfl, rfl, rfl, rfl, trivial⟩) hS)
  ·refine stepW_ef _ rfl rfl hF hS rfl (ef_allocA ty263) ?_
   rintro _ _ _ a w ⟨b_2_7, rfl, rfl, rfl⟩ hF hS
   refine ⟨⟨.inr (hS.k1 (sQ.n.n.n)), .inr hS.k0, .inr (hS.k1 (sQ.n.n.n)), .inr (hS.k1 (sQ.n.n.n)), .inr hS.k0, .inr (hS.k1 (sQ.n.n.n)), trivial⟩, ?_⟩
   refine gQ 6 rfl rfl hF hS rfl (ef_allocA ty263) ?_
   rintro _ _ _ a w ⟨b_2_6, rfl, rfl, rfl⟩ hF hS
   refine ⟨⟨.inr (hS.k1 (sQ.n.n.n.n)), .inr hS.k0, .inr (hS.k1 (sQ.n.n.n.n)), .inr (hS.k1 (sQ.n.n.n.n)), .inr hS.k0, .inr (hS.k1 (sQ.n.n.n.n)), trivial⟩, ?_⟩
   refine gQ 8 rfl rfl hF hS rfl (ef_storeW ty263 0 rfl rfl rfl rfl bQ oQ bQ) ?_
   rintro _ _ _ a w ⟨rfl, rfl, rfl⟩ hF hS
   refine ⟨⟨.inr (hS.k1 (sQ.n.n.n.n)), .inr hS.k0, .inr (hS.k1 (sQ.n.n.n.n)), iQ, iQ, iQ, trivial⟩, ?_⟩
   refine gQ 9 rfl rfl hF hS rfl (ef_storeW ty263 1 rfl rfl rfl rfl bQ oQ bQ) ?_
   rintro _ _ _ a w ⟨rfl, rfl, rfl⟩ hF hS
   refine ⟨⟨iQ, iQ, iQ, iQ, iQ, iQ, trivial⟩, ?_⟩
   exact goW_done kQ (j2_mk b_2_6 b_2_7 (trivial) (hF.sub (L' := [(2, _), (4, _), (5, _), (6, _), (7, _)]) ⟨rfl, rfl, rfl, rfl, rfl, trivial⟩) (hS.perm (.swap _ _ _)))
 rintro a w ⟨b_2_6, b_2_7, -, hF, hS⟩
 (try dsimp only at hF hS)
 refine hK3 _ _ ?_
 refine k0 ?_; intro K4 hK4
 refine regS hF hS (q0 (q_ld_oldW ty239 rfl hg1 bQ rfl) <| mQ rfl <| sq_end) fun a w hF hS => ?_
 refine wp_block ?_
 obtain ⟨hs0, hhs0, hS⟩ := hS.oh
 refine wp_loopx (γ := Int) (0) (fun (i : Int) => [(22, vi i)]) [(2, _), (4, _), (5, _), (6, _), (7, _), (21, _)] (fun (i : Int) => ((hs0.set 1 (.blk b_2_6 263 [vw (Sha.rounds (Sha.sch bb 64) (a0, a1, a2, a3, a4, a5, a6, a7) i.toNat).1, vw (Sha.rounds (Sha.sch bb 64) (a0, a1, a2, a3, a4, a5, a6, a7) i.toNat).2.1, vw (Sha.rounds (Sha.sch bb 64) (a0, a1, a2, a3, a4, a5, a6, a7) i.toNat).2.2.1, vw (Sha.rounds (Sha.sch bb 64) (a0, a1, a2, a3, a4, a5, a6, a7) i.toNat).2.2.2.1])).set 0 (.blk b_2_7 263 [vw (Sha.rounds (Sha.sch bb 64) (a0, a1, a2, a3, a4, a5, a6, a7) i.toNat).2.2.2.2.1, vw (Sha.rounds (Sha.sch bb 64) (a0, a1, a2, a3, a4, a5, a6, a7) i.toNat).2.2.2.2.2.1, vw (Sha.rounds (Sha.sch bb 64) (a0, a1, a2, a3, a4, a5, a6, a7) i.toNat).2.2.2.2.2.2.1, vw (Sha.rounds (Sha.sch bb 64) (a0, a1, a2, a3, a4, a5, a6, a7) i.toNat).2.2.2.2.2.2.2]))) (fun (i : Int) => 0 ≤ i ∧ i ≤ 64) (fun (i : Int) => (64 - i).toNat) (hF.sub ⟨rfl, rfl, rfl, rfl, rfl, rfl, rfl, trivial⟩) (by subst hhs0; exact hS) (by simp) ?_
 rintro i a w hfact hF hS
 subst hhs0; (try dsimp only at hfact hF hS)
 obtain ⟨hi0, hi1⟩ := hfact
 replace hS := nl0_5 hS
 refine regS hF hS (q0 (q_lti rfl rfl) <| sq_end) fun a w hF hS => ?_
 refine k0 ?_; intro K7 hK7
 refine wp_ifd hF rfl (fun hc1 => ?_) (fun hc1 => ?_)
 ·refine wp_skip ?_
  refine hK7 _ _ ?_
  refine k0 ?_; intro K8 hK8
  refine wp_block ?_
  refine regS hF hS (mQ rfl <| q0 (q_idx_aggM ty239 ty220 (0 : UInt32) rfl rfl (by omega) bQ rfl) <| aQ rfl <| aQ rfl <| sq_end) fun a w hF hS => ?_
  refine regdS mixed kQ hF hS (q0 (q_idx_arr ty263 ty220 rfl rfl (by omega)) <| q0 (q_ld_blk1 ty220 0 rfl rfl rfl rfl) <| q0 (q_idx_arr ty263 ty220 rfl rfl (by omega)) <| q0 (q_ld_blk1 ty220 0 rfl rfl rfl rfl) <| q0 (q_call fn187 rfl (fun w hS => mix_ct _ _ _ _ (by omega) (by omega) (by omega) w ) (fun _ _ _ h => h)) <| q0 (q_addw rfl rfl) <| q0 (q_idx_arr ty263 ty220 rfl rfl (by omega)) <| q0 (q_ld_blk1 ty220 0 rfl rfl rfl rfl) <| q0 (q_idx_arr ty263 ty220 rfl rfl (by omega)) <| q0 (q_ld_blk1 ty220 0 rfl rfl rfl rfl) <| q0 (q_andw rfl rfl) <| q0 (q_idx_arr ty263 ty220 rfl rfl (by omega)) <| q0 (q_ld_blk1 ty220 0 rfl rfl rfl rfl) <| q0 (q_notw rfl) <| q0 (q_idx_arr ty263 ty220 rfl rfl (by omega)) <| q0 (q_ld_blk1 ty220 0 rfl rfl rfl rfl) <| q0 (q_andw rfl rfl) <| q0 (q_xorw rfl rfl) <| q0 (q_addw rfl rfl) <| mQ rfl <| q0 (q_addw rfl rfl) <| mQ rfl <| q0 (q_idx_arr0 ty239 ty220 rfl rfl (by omega)) <| q0 (q_ld_blkM ty220 2 0 rfl rfl bQ rfl) <| q0 (q_addw rfl rfl) <| aQ rfl <| sq_end) fun a w hF hS => ?_
  refine regdS mixed kQ hF hS (q0 (q_idx_arr ty263 ty220 rfl rfl (by omega)) <| q0 (q_ld_blk1 ty220 1 rfl rfl rfl rfl) <| q0 (q_call fn187 rfl (fun w hS => mix_ct _ _ _ _ (by omega) (by omega) (by omega) w ) (fun _ _ _ h => h)) <| q0 (q_idx_arr ty263 ty220 rfl rfl (by omega)) <| q0 (q_ld_blk1 ty220 1 rfl rfl rfl rfl) <| q0 (q_idx_arr ty263 ty220 rfl rfl (by omega)) <| q0 (q_ld_blk1 ty220 1 rfl rfl rfl rfl) <| q0 (q_andw rfl rfl) <| q0 (q_idx_arr ty263 ty220 rfl rfl (by omega)) <| q0 (q_ld_blk1 ty220 1 rfl rfl rfl rfl) <| q0 (q_idx_arr ty263 ty220 rfl rfl (by omega)) <| q0 (q_ld_blk1 ty220 1 rfl rfl rfl rfl) <| q0 (q_andw rfl rfl) <| q0 (q_xorw rfl rfl) <| q0 (q_idx_arr ty263 ty220 rfl rfl (by omega)) <| q0 (q_ld_blk1 ty220 1 rfl rfl rfl rfl) <| q0 (q_idx_arr ty263 ty220 rfl rfl (by omega)) <| q0 (q_ld_blk1 ty220 1 rfl rfl rfl rfl) <| q0 (q_andw rfl rfl) <| q0 (q_xorw rfl rfl) <| q0 (q_addw rfl rfl) <| aQ rfl <| sq_end) fun a w hF hS => ?_
  refine reglS fun K12 hK12 => ?_
  refine lQ hF hS (q0 (q_idx_arr ty263 ty220 rfl rfl (by omega)) <| q0 (q_ld_blk1 ty220 1 rfl rfl rfl rfl) <| mQ rfl <| q0 (q_addw rfl rfl) <| q0 (q_idx_arr ty263 ty220 rfl rfl (by omega)) <| q0 (q_ld_blk1 ty220 0 rfl rfl rfl rfl) <| q0 (q_idx_arr ty263 ty220 rfl rfl (by omega)) <| q0 (q_ld_blk1 ty220 0 rfl rfl rfl rfl) <| q0 (q_idx_arr ty263 ty220 rfl rfl (by omega)) <| q0 (q_ld_blk1 ty220 0 rfl rfl rfl rfl) <| q0 (q_buildA1 ty263 ty220 rfl rfl oQ rfl rfl) <| sq_end) fun a w hF hS => ?_
  refine eQ hF hS rfl (ef_storeW ty263 0 rfl rfl rfl rfl bQ oQ bQ) ?_
  rintro _ _ _ a w ⟨rfl, rfl, rfl⟩ hF hS
  replace hS := nl0_5 hS
  refine wpList_nil (hK12 _ _ ?_)
  refine regl ?_
  refine lQ hF hS (mQ rfl <| mQ rfl <| q0 (q_addw rfl rfl) <| q0 (q_idx_arr ty263 ty220 rfl rfl (by omega)) <| q0 (q_ld_blk1 ty220 1 rfl rfl rfl rfl) <| q0 (q_idx_arr ty263 ty220 rfl rfl (by omega)) <| q0 (q_ld_blk1 ty220 1 rfl rfl rfl rfl) <| q0 (q_idx_arr ty263 ty220 rfl rfl (by omega)) <| q0 (q_ld_blk1 ty220 1 rfl rfl rfl rfl) <| q0 (q_buildA1 ty263 ty220 rfl rfl oQ rfl rfl) <| sq_end) fun a w hF hS => ?_
  refine eQ hF hS rfl (ef_storeW ty263 1 rfl rfl rfl rfl bQ oQ bQ) ?_
  rintro _ _ _ a w ⟨rfl, rfl, rfl⟩ hF hS
  replace hS := nl0_5 hS
  refine wpList_nil (hK8 _ _ ?_)
  refine reg hF hS (pQ rfl rfl <| mQ rfl <| sq_end) fun a w hF hS => ?_
  refine ⟨(i + 1), ?_, ?_, hF.sub ⟨rfl, rfl, rfl, rfl, rfl, rfl, rfl, trivial⟩, ?_⟩
  ·(try dsimp only); omega
  ·(try dsimp only); omega
  ·rw [Sha.rounds_succ _ _ i hi0]
   exact hS
 ·obtain rfl : i = 64 := by omega
  rw [show (64 : Int).toNat = 64 from rfl] at hS
  generalize hR : Sha.rounds (Sha.sch bb 64) (a0, a1, a2, a3, a4, a5, a6, a7) 64 = R at hS
  obtain ⟨r0, r1, r2, r3, r4, r5, r6, r7⟩ := R
  dsimp only at hS
  refine wp_exit ?_
  refine hK4 _ _ ?_
  refine k0 ?_; intro K13 hK13
  refine regS hF hS (mQ rfl <| sq_end) fun a w hF hS => ?_
  refine wp_block ?_
  obtain ⟨hs0, hhs0, hS⟩ := hS.oh
  refine wp_loopx (γ := Int) (0) (fun (i : Int) => [(94, vi i)]) [(2, _), (4, _), (6, _), (7, _)] (fun (i : Int) => (((hs0.set 4 (.blk b1 221 ((Sha.upd [a0, a1, a2, a3, a4, a5, a6, a7] [r0, r1, r2, r3, r4, r5, r6, r7] i.toNat).map vw))).set 1 (.blk b_2_6 263 ([r0, r1, r2, r3].map vw))).set 0 (.blk b_2_7 263 ([r4, r5, r6, r7].map vw)))) (fun (i : Int) => 0 ≤ i ∧ i ≤ 4) (fun (i : Int) => (4 - i).toNat) (hF.sub ⟨rfl, rfl, rfl, rfl, rfl, trivial⟩) (by subst hhs0; exact hS) (by simp) ?_
  rintro i a w hfact hF hS
  subst hhs0; (try dsimp only at hfact hF hS)
  obtain ⟨hi0, hi1⟩ := hfact
  replace hS := nl0_5 hS
  have hul := Sha.upd_len [a0, a1, a2, a3, a4, a5, a6, a7] [r0, r1, r2, r3, r4, r5, r6, r7] i.toNat
  refine regS hF hS (q0 (q_lti rfl rfl) <| sq_end) fun a w hF hS => ?_
  refine k0 ?_; intro K16 hK16
  refine wp_ifd hF rfl (fun hc2 => ?_) (fun hc2 => ?_)
  ·refine wp_skip ?_
   refine hK16 _ _ ?_
   refine k0 ?_; intro K17 hK17
   refine wp_block ?_
   refine regS hF hS (mQ rfl <| aQ rfl <| sq_end) fun a w hF hS => ?_
   refine k0 ?_; intro K19 hK19
   refine regt 8 mixed kQ hF hS (mQ rfl <| q0 (q_idx_arr0 ty221 ty220 rfl rfl (by omega)) <| q0 (q_ld_blkM ty220 4 0 rfl rfl bQ rfl) <| mQ rfl <| q0 (q_idx_arr0 ty263 ty220 rfl rfl (by omega)) <| q0 (q_ld_blkM ty220 1 0 rfl rfl bQ rfl) <| q0 (q_addw rfl rfl) <| q0 (q_idx_arr0 ty221 ty220 rfl rfl (by omega)) <| sq_end) fun a w hF hS => ?_
   refine eQ hF hS rfl (ef_st_blkM ty220 4 rfl rfl rfl bQ rfl) ?_
   rintro _ _ _ a w ⟨rfl, rfl, rfl⟩ hF hS
   replace hS := nl0_5 hS
   refine wpList_nil (hK19 _ _ ?_)
   refine regt 9 mixed kQ hF hS (mQ rfl <| pQ rfl rfl <| q0 (q_idx_arr0 ty221 ty220 rfl rfl (by omega)) <| q0 (q_ld_blkM ty220 4 0 rfl rfl bQ rfl) <| mQ rfl <| q0 (q_idx_arr0 ty263 ty220 rfl rfl (by omega)) <| q0 (q_ld_blkM ty220 0 0 rfl rfl bQ rfl) <| q0 (q_addw rfl rfl) <| q0 (q_idx_arr0 ty221 ty220 rfl rfl (by omega)) <| sq_end) fun a w hF hS => ?_
   refine eQ hF hS rfl (ef_st_blkM ty220 4 rfl rfl rfl bQ rfl) ?_
   rintro _ _ _ a w ⟨rfl, rfl, rfl⟩ hF hS
   replace hS := nl0_5 hS
   refine wpList_nil (hK17 _ _ ?_)
   refine reg hF hS (pQ rfl rfl <| mQ rfl <| sq_end) fun a w hF hS => ?_
   refine ⟨(i + 1), ?_, ?_, hF.sub ⟨rfl, rfl, rfl, rfl, rfl, trivial⟩, ?_⟩
   ·(try dsimp only); omega
   ·(try dsimp only); omega
   ·have h4 : i = 0 ∨ i = 1 ∨ i = 2 ∨ i = 3 := by omega
    rcases h4 with rfl | rfl | rfl | rfl <;> exact hS
  ·obtain rfl : i = 4 := by omega
   have hul4 := Sha.upd_len [a0, a1, a2, a3, a4, a5, a6, a7] [r0, r1, r2, r3, r4, r5, r6, r7] 4
   have hcomp : Sha.comp [a0, a1, a2, a3, a4, a5, a6, a7] bb = Sha.upd [a0, a1, a2, a3, a4, a5, a6, a7] [r0, r1, r2, r3, r4, r5, r6, r7] 4 := by
    show List.zipWith (· + ·) [a0, a1, a2, a3, a4, a5, a6, a7] (Sha.l8 (Sha.rounds (Sha.sch bb 64) (a0, a1, a2, a3, a4, a5, a6, a7) 64)) = _
    rw [hR]
    rfl
   refine wp_exit ?_
   refine hK13 _ _ ?_
   refine reglS fun K20 hK20 => ?_
   refine lQ hF hS (q0 (q_ld_blkW ty221 4 rfl rfl bQ rfl) <| sq_end) fun a w hF hS => ?_
   refine eQ hF hS rfl (ef_storeW ty221 3 rfl rfl rfl rfl bQ oQ bQ) ?_
   rintro _ _ _ a w ⟨rfl, rfl, rfl⟩ hF hS
   replace hS := nl0_5 hS
   refine wpList_nil (hK20 _ _ ?_)
   refine wp_ret ?_
   exact fn_ret (rs := [.cell 4 221]) rfl hF hS (vs := [_]) ⟨⟨_, _, _, _, _, _, _, rfl, List.mem_of_getElem? (i := 3) rfl, ty221, .inl ⟨rfl, bQ, rfl⟩⟩, trivial⟩ zQ zQ (by rw [hcomp]; rfl)
end
section
theorem ty9 : Tf Tryz.prog 9 .string 1 16 (Value.string ⟨(List.nil : List UInt8).toArray⟩) := ⟨Tryz.underlying9, by kernel_rfl⟩
theorem ty125 : Tf Tryz.prog 125 (.array 64 5) 64 64 (.agg (List.replicate 64 (Value.int .u8 0)).toArray) := ⟨Tryz.underlying125, by kernel_rfl⟩
theorem ty179 : Tf Tryz.prog 179 (.int .u64) 1 8 (Value.int .u64 0) := ⟨Tryz.underlying179, by kernel_rfl⟩
theorem ty223 : Tf Tryz.prog 223 (.struct #[⟨ "state", 221, 0, false, "", "culprit/hash", 0⟩, ⟨ "block", 125, 8, false, "", "culprit/hash", 32⟩, ⟨ "n", 179, 72, false, "", "culprit/hash", 96⟩]) 73 104 (.agg (List.replicate 8 (Value.int .u32 0) ++ List.replicate 64 (Value.int .u8 0) ++ [Value.int .u64 0]).toArray) := ⟨Tryz.underlying223, by kernel_rfl⟩
theorem fn167 : FnOk Tryz.prog 167 := fQ Tryz.func167
/-- A stream's cells. -/
@[reducible] def stmC (s : Sha.Stm) : List Value := s.st.map vw ++ (s.bl.map vb ++ [vq s.n])
theorem begin_ct (w : World) : Ct Tryz.prog 142 [] w (fun r _ _ => r = .agg (stmC Sha.begin_).toArray) := by
 refine fn_enter Tryz.func142 rfl Tryz.ntmps142 (Nat.le_of_ble_eq_true rfl) fun a hF hS => ?_
 refine reglS fun K1 hK1 => ?_
 refine eQ hF hS rfl (ef_allocA ty223) ?_
 rintro _ _ _ a w ⟨b1, rfl, rfl, rfl⟩ hF hS
 refine wpList_nil (hK1 _ _ ?_)
 refine reglS fun K2 hK2 => ?_
 refine lQ hF hS (q0 (q_buildA1 ty221 ty220 rfl rfl oQ rfl rfl) <| q0 (q_build rfl (run_build_struct ty223 (places := [(0, 8), (8, 64), (72, 1)]) kQ (cells := stmC Sha.begin_) kQ)) <| sq_end) fun a w hF hS => ?_
 refine eQ hF hS rfl (ef_storeW ty223 0 rfl rfl rfl rfl bQ oQ bQ) ?_
 rintro _ _ _ a w ⟨rfl, rfl, rfl⟩ hF hS
 (try dsimp only [segs] at hS)
 replace hS := nl0_1 hS
 refine wpList_nil (hK2 _ _ ?_)
 refine wp_ret ?_
 exact fn_ret (rs := [.cell 0 223]) rfl hF hS (vs := [_]) ⟨⟨_, _, _, _, _, _, _, rfl, List.mem_of_getElem? (i := 0) rfl, ty223, .inl ⟨rfl, bQ, rfl⟩⟩, trivial⟩ zQ zQ (rfl)
theorem add_ct (s : Sha.Stm) (t : List UInt8) (h8 : s.st.length = 8) (h64 : s.bl.length = 64) (ht : t.length < 1099511627776) (w : World) {fz1 : Nat × Nat} {bt1 : TypeId} (hg1 : w.heap[1]? = some (.cells (Sha.kc.map vw).toArray bt1 fz1)) : Ct Tryz.prog 143 [.agg (stmC s).toArray, vs t] w (fun r _ _ => r = .agg (stmC (Sha.adds s t)).toArray) := by
 refine fn_enter Tryz.func143 rfl Tryz.ntmps143 (Nat.le_of_ble_eq_true rfl) fun a hF hS => ?_
 refine reglS fun K1 hK1 => ?_
 refine eQ hF hS rfl (ef_boxA rfl) ?_
 rintro _ _ _ a w ⟨b1, rfl, rfl, rfl⟩ hF hS
 refine eQ hF hS rfl (ef_allocA ty223) ?_
 rintro _ _ _ a w ⟨b2, rfl, rfl, rfl⟩ hF hS
 refine wpList_nil (hK1 _ _ ?_)
 refine k0 ?_; intro K2 hK2
 refine wp_block ?_
 obtain ⟨hs0, hhs0, hS⟩ := hS.oh
 refine wp_loopx (γ := Sha.Stm × List UInt8) (s, t) (fun (s', t') => [(1, vs t')]) [(2, _), (4, _)] (fun (s', t') => (hs0.set 1 (.blk b1 223 (s'.st.map vw ++ (s'.bl.map vb ++ [vq s'.n]))))) (fun (s', t') => s'.st.length = 8 ∧ s'.bl.length = 64 ∧ t'.length < 1099511627776 ∧ Sha.adds s' t' = Sha.adds s t) (fun (s', t') => t'.length) (hF.sub ⟨rfl, rfl, rfl, trivial⟩) (by subst hhs0; exact hS) (by exact ⟨h8, h64, ht, rfl⟩) ?_
 rintro ⟨s', t'⟩ a w hfact hF hS
 subst hhs0; (try dsimp only at hfact hF hS)
 obtain ⟨h8, h64, ht, hadd⟩ := hfact
 replace hS := nl0_2 hS
 refine k0 ?_; intro K3 hK3
 refine regS hF hS (mQ rfl <| q0 (q_nes (q := []) rfl rfl) <| sq_end) fun a w hF hS => ?_
 refine wp_ifn hF rfl (fun hc1 => ?_) (fun hc1 => ?_)
 ·have htpos : 0 < t'.length := by
   cases t' with
   | nil => exact absurd rfl hc1
   | cons c t => simp
  refine wp_skip ?_
  refine hK3 _ _ ?_
  refine wp_block ?_
  refine k0 ?_; intro K5 hK5
  refine reg hF hS (q0 (q_fieldAddr ty223 rfl rfl (s' := 0) kQ) <| q0 (q_ld_seg1 ty179 1 [_, _] rfl rfl bQ rfl) <| q0 (q_remq (q := 64) rfl rfl (by decide)) <| q0 (q_cv_qi ty179 ty3 rfl) <| aQ rfl <| sq_end) fun a w hF hS => ?_
  rw [Sha.at_sgn s'.n] at hF
  generalize hat : s'.n.toNat % 64 = q at hF
  have hq : q < 64 := by omega
  refine hK5 _ _ ?_
  refine reglS fun K6 hK6 => ?_
  refine lQ hF hS (q0 (q_fieldAddr ty223 rfl rfl (s' := 63) kQ) <| mQ rfl <| q0 (q_sla_lo ty125 ty5 rfl rfl (by omega)) <| mQ rfl <| sq_end) fun a w hF hS => ?_
  refine eQ hF hS rfl (ef_copy_segM ty25 ty5 1 [_] rfl rfl rfl bQ bQ) ?_
  rintro _ _ _ a w ⟨rfl, rfl, rfl⟩ hF hS
  (try dsimp only [segs] at hS)
  replace hS := nl0_2 hS
  refine lQ hF hS (aQ rfl <| sq_end) fun a w hF hS => ?_
  refine wpList_nil ?_
  simp only [Int.toNat_natCast] at hS hF
  obtain ⟨k, hk⟩ : ∃ k, k = min t'.length (64 - q) := ⟨_, rfl⟩
  rw [← hk] at hS
  rw [show min (t'.length : Int) ((64 - q : Nat) : Int) = (k : Int) by omega] at hF
  have hbl : (List.take q s'.bl ++ (List.take k t' ++ List.drop (q + k) s'.bl)).length = 64 := by simp; omega
  generalize hB : List.take q s'.bl ++ (List.take k t' ++ List.drop (q + k) s'.bl) = B at hS hbl
  refine hK6 _ _ ?_
  refine k0 ?_; intro K7 hK7
  refine reg hF hS (mQ rfl <| mQ rfl <| q0 (q_sl_s_lo ty9 rfl rfl (by omega)) <| aQ rfl <| sq_end) fun a w hF hS => ?_
  simp only [Int.toNat_natCast] at hF
  refine hK7 _ _ ?_
  refine reglS fun K8 hK8 => ?_
  refine lQ hF hS (q0 (q_fieldAddr ty223 rfl rfl (s' := 0) kQ) <| q0 (q_ld_seg1 ty179 1 [_, _] rfl rfl bQ rfl) <| mQ rfl <| q0 (q_cv_iq ty3 ty179 rfl) <| q0 (q_addq rfl rfl) <| q0 (q_fieldAddr ty223 rfl rfl (s' := 0) kQ) <| sq_end) fun a w hF hS => ?_
  refine eQ hF hS rfl (ef_st_seg1 ty179 1 [_, _] rfl rfl rfl bQ rfl) ?_
  rintro _ _ _ a w ⟨rfl, rfl, rfl⟩ hF hS
  (try dsimp only [segs] at hS)
  replace hS := nl0_2 hS
  refine wpList_nil (hK8 _ _ ?_)
  refine regS hF hS (mQ rfl <| mQ rfl <| pQ rfl rfl <| q0 (q_eqi rfl rfl) <| sq_end) fun a w hF hS => ?_
  refine wp_ifd hF rfl (fun hc2 => ?_) (fun hc2 => ?_)
  ·have hcl := Sha.comp_len s'.st B h8
   refine regt 6 mixed kQ hF hS (q0 (q_fieldAddr ty223 rfl rfl (s' := 7) kQ) <| q0 (q_ld_seg ty221 1 [] rfl rfl bQ bQ rfl) <| q0 (q_fieldAddr ty223 rfl rfl (s' := 63) kQ) <| q0 (q_sla ty125 ty5 rfl) <| q0 (q_call fn167 rfl (fun w hS => compress_ct _ _ _ (by first | assumption | rfl | (simp; done) | (simp; omega)) (by first | assumption | omega | (simp; omega)) w (blk_segV hS 1 [_] rfl bQ (by omega) (by simp)) (hS.ext _ _ hg1)) (fun _ _ _ h => h)) <| q0 (q_fieldAddr ty223 rfl rfl (s' := 7) kQ) <| sq_end) fun a w hF hS => ?_
   refine eQ hF hS rfl (ef_st_seg ty221 1 [] rfl rfl rfl bQ bQ bQ (fun _ => rfl)) ?_
   rintro _ _ _ a w ⟨rfl, rfl, rfl⟩ hF hS
   (try dsimp only [segs] at hS)
   replace hS := nl0_2 hS
   refine wpList_nil ?_
   refine ⟨(⟨Sha.comp s'.st B, B, s'.n + ofq (k : Int)⟩, t'.drop k), ?_, ?_, hF.sub ⟨rfl, rfl, rfl, trivial⟩, ?_⟩
   ·dsimp only; rw [List.length_drop]; omega
   ·exact ⟨Sha.comp_len _ _ h8, hbl, by rw [List.length_drop]; omega, by rw [← hadd, Sha.adds_chunk s' t' q k hat h64 (by omega) (by omega), if_pos (by omega), hB]⟩
   ·exact hS
  ·refine wp_skip ?_
   refine ⟨(⟨s'.st, B, s'.n + ofq (k : Int)⟩, t'.drop k), ?_, ?_, hF.sub ⟨rfl, rfl, rfl, trivial⟩, ?_⟩
   ·dsimp only; rw [List.length_drop]; omega
   ·exact ⟨h8, hbl, by rw [List.length_drop]; omega, by rw [← hadd, Sha.adds_chunk s' t' q k hat h64 (by omega) (by omega), if_neg (by omega), hB]⟩
   ·exact hS
 ·obtain rfl := hc1
  refine wp_exit ?_
  refine hK2 _ _ ?_
  refine reglS fun K10 hK10 => ?_
  refine lQ hF hS (q0 (q_ld_blkW ty223 1 rfl rfl bQ rfl) <| sq_end) fun a w hF hS => ?_
  refine eQ hF hS rfl (ef_storeW ty223 0 rfl rfl rfl rfl bQ oQ bQ) ?_
  rintro _ _ _ a w ⟨rfl, rfl, rfl⟩ hF hS
  (try dsimp only [segs] at hS)
  replace hS := nl0_2 hS
  refine wpList_nil (hK10 _ _ ?_)
  refine wp_ret ?_
  exact fn_ret (rs := [.cell 4 223]) rfl hF hS (vs := [_]) ⟨⟨_, _, _, _, _, _, _, rfl, List.mem_of_getElem? (i := 0) rfl, ty223, .inl ⟨rfl, bQ, rfl⟩⟩, trivial⟩ zQ zQ (by rw [← hadd]; rfl)
end
section
theorem ty182 : Tf Tryz.prog 182 (.array 32 5) 32 32 (.agg (List.replicate 32 (Value.int .u8 0)).toArray) := ⟨Tryz.underlying182, by kernel_rfl⟩
theorem fn143 : FnOk Tryz.prog 143 := fQ Tryz.func143
theorem ssum_ct (s : Sha.Stm) (h8 : s.st.length = 8) (h64 : s.bl.length = 64) (hn : s.n.toNat < 2199023255552) (w : World) {fz1 : Nat × Nat} {bt1 : TypeId} (hg1 : w.heap[1]? = some (.cells (Sha.kc.map vw).toArray bt1 fz1)) : Ct Tryz.prog 144 [.agg (stmC s).toArray] w (fun r _ _ => r = .agg ((Sha.fin s).map vb).toArray) := by
 refine fn_enter Tryz.func144 rfl Tryz.ntmps144 (Nat.le_of_ble_eq_true rfl) fun a hF hS => ?_
 have hsg : sgn s.n = (s.n.toNat : Int) := by unfold sgn; rw [if_pos (by omega)]
 have hz := Sha.zeros_lt s.n.toNat
 have hbe := Sha.be8_len (8 * s.n)
 refine reglS fun K1 hK1 => ?_
 refine eQ hF hS rfl (ef_boxA rfl) ?_
 rintro _ _ _ a w ⟨b1, rfl, rfl, rfl⟩ hF hS
 refine eQ hF hS rfl (ef_allocA ty182) ?_
 rintro _ _ _ a w ⟨b2, rfl, rfl, rfl⟩ hF hS
 rw [show List.replicate 32 (Value.int .u8 0) = (List.replicate 32 (0 : UInt8)).map vb from by rw [List.map_replicate] <;> rfl] at hS
 refine wpList_nil (hK1 _ _ ?_)
 refine regS hF hS (q0 (q_fieldAddr ty223 rfl rfl (s' := 0) kQ) <| q0 (q_ld_seg1 ty179 1 [_, _] rfl rfl bQ rfl) <| q0 (q_mulq (p := 8) rfl rfl) <| aQ rfl <| sq_end) fun a w hF hS => ?_
 refine reglS fun K3 hK3 => ?_
 refine eQ hF hS rfl (ef_bsliceA ty25 ty5 rfl rfl oQ (by decide) rfl rfl) ?_
 rintro v3 _ _ a w ⟨rfl, rfl⟩ hF hS
 replace hS := nl0_3 hS
 refine lQ hF hS (aQ rfl <| sq_end) fun a w hF hS => ?_
 refine wpList_nil (hK3 _ _ ?_)
 refine k0 ?_; intro K4 hK4
 refine wp_block ?_
 obtain ⟨hs0, hhs0, hS⟩ := hS.oh
 refine wp_loopx (γ := Value × Nat) (v3, 0) (fun (v, j) => [(4, v)]) [(1, _), (2, _), (3, _)] (fun (v, j) => (hs0.set 0 (.row v 5 1 (1 + j) ((128 :: List.replicate j (0 : UInt8)).map vb)))) (fun (v, j) => j ≤ Sha.zerosFor s.n.toNat) (fun (v, j) => Sha.zerosFor s.n.toNat - j) (hF.sub ⟨rfl, rfl, rfl, rfl, trivial⟩) (by subst hhs0; exact hS) (by exact Nat.zero_le _) ?_
 rintro ⟨v, j⟩ a w hfact hF hS
 subst hhs0; (try dsimp only at hfact hF hS)
 have hj := hfact
 replace hS := nl0_3 hS
 refine k0 ?_; intro K5 hK5
 refine regS hF hS (q0 (q_fieldAddr ty223 rfl rfl (s' := 0) kQ) <| q0 (q_ld_seg1 ty179 2 [_, _] rfl rfl bQ rfl) <| q0 (q_cv_qi ty179 ty3 rfl) <| mQ rfl <| q0 (q_len_row ty25 0 rfl rfl) <| pQ rfl rfl <| q0 (q_remi rfl rfl (by omega)) <| q0 (q_nei rfl rfl) <| sq_end) fun a w hF hS => ?_
 refine wp_ifn hF rfl (fun hc1 => ?_) (fun hc1 => ?_)
 ·have hjl : j < Sha.zerosFor s.n.toNat := by
   have := Sha.zeros_at s.n.toNat
   rcases Nat.lt_or_ge j (Sha.zerosFor s.n.toNat) with h | h
   ·exact h
   ·obtain rfl : j = Sha.zerosFor s.n.toNat := by omega
    omega
  refine wp_skip ?_
  refine hK5 _ _ ?_
  refine wp_block ?_
  refine regl ?_
  refine lQ hF hS (mQ rfl <| sq_end) fun a w hF hS => ?_
  refine eQ hF hS rfl (ef_bsliceA ty25 ty5 rfl rfl oQ (by decide) rfl rfl) ?_
  rintro v5 _ _ a w ⟨rfl, rfl⟩ hF hS
  replace hS := nl0_4 hS
  refine eQ hF hS rfl (ef_append ty25 ty5 1 rfl rfl rfl (src_row ty25 (k := 0) rfl oQ) bQ rfl (by decide)) ?_
  rintro v7 _ _ a w ⟨rfl, rfl⟩ hF hS
  replace hS := nl0_4 hS
  refine lQ hF hS (aQ rfl <| sq_end) fun a w hF hS => ?_
  refine wpList_nil ?_
  replace hS := hS.keep zQ (sQ.n)
  refine ⟨(v7, j + 1), ?_, ?_, hF.sub ⟨rfl, rfl, rfl, rfl, trivial⟩, ?_⟩
  ·(try dsimp only); omega
  ·(try dsimp only); omega
  ·have e : (128 :: List.replicate j (0 : UInt8)).map vb ++ [Value.int .u8 0] = (128 :: List.replicate (j + 1) (0 : UInt8)).map vb := by rw [List.replicate_succ']; simp
   rw [e] at hS
   exact hS
 ·have hjz := Sha.zeros_un s.n.toNat j hj (by omega)
  subst hjz
  refine wp_exit ?_
  refine hK4 _ _ ?_
  refine k0 ?_; intro K7 hK7
  refine regS hF hS (mQ rfl <| sq_end) fun a w hF hS => ?_
  refine wp_block ?_
  obtain ⟨hs0, hhs0, hS⟩ := hS.oh
  refine wp_loopx (γ := Value × Int) (v, 0) (fun (v, i) => [(4, v), (23, vi i)]) [(1, _), (2, _), (3, _)] (fun (v, i) => (hs0.set 0 (.row v 5 1 (1 + Sha.zerosFor s.n.toNat + i.toNat) ((128 :: (List.replicate (Sha.zerosFor s.n.toNat) (0 : UInt8) ++ (Sha.be8 (8 * s.n)).take i.toNat)).map vb)))) (fun (v, i) => 0 ≤ i ∧ i ≤ 8) (fun (v, i) => (8 - i).toNat) (hF.sub ⟨rfl, rfl, rfl, rfl, rfl, trivial⟩) (by subst hhs0; simpa using hS) (by simp) ?_
  rintro ⟨v, i⟩ a w hfact hF hS
  subst hhs0; (try dsimp only at hfact hF hS)
  obtain ⟨hi0, hi1⟩ := hfact
  replace hS := nl0_3 hS
  refine regS hF hS (q0 (q_lti rfl rfl) <| sq_end) fun a w hF hS => ?_
  refine k0 ?_; intro K10 hK10
  refine wp_ifd hF rfl (fun hc2 => ?_) (fun hc2 => ?_)
  ·refine wp_skip ?_
   refine hK10 _ _ ?_
   refine k0 ?_; intro K11 hK11
   refine wp_block ?_
   refine regS hF hS (mQ rfl <| aQ rfl <| sq_end) fun a w hF hS => ?_
   refine regl ?_
   refine lQ hF hS (mQ rfl <| mQ rfl <| mQ rfl <| q0 (q_muli rfl rfl (by omega)) <| dQ rfl rfl <| q0 (q_shrq rfl rfl (by omega)) <| q0 (q_cv_qb ty179 ty5 rfl) <| sq_end) fun a w hF hS => ?_
   refine eQ hF hS rfl (ef_bsliceA ty25 ty5 rfl rfl oQ (by decide) rfl rfl) ?_
   rintro v8 _ _ a w ⟨rfl, rfl⟩ hF hS
   replace hS := nl0_4 hS
   refine eQ hF hS rfl (ef_append ty25 ty5 1 rfl rfl rfl (src_row ty25 (k := 0) rfl oQ) bQ rfl (by decide)) ?_
   rintro v10 _ _ a w ⟨rfl, rfl⟩ hF hS
   replace hS := nl0_4 hS
   refine lQ hF hS (aQ rfl <| sq_end) fun a w hF hS => ?_
   refine wpList_nil (hK11 _ _ ?_)
   refine reg hF hS (pQ rfl rfl <| mQ rfl <| sq_end) fun a w hF hS => ?_
   replace hS := hS.keep zQ (sQ.n)
   refine ⟨(v10, i + 1), ?_, ?_, hF.sub ⟨rfl, rfl, rfl, rfl, rfl, trivial⟩, ?_⟩
   ·(try dsimp only); omega
   ·(try dsimp only); omega
   ·rw [Sha.byte_q (8 * s.n) i ⟨hi0, by omega⟩] at hS
    have e : (128 :: (List.replicate (Sha.zerosFor s.n.toNat) (0 : UInt8) ++ (Sha.be8 (8 * s.n)).take i.toNat)).map vb ++ [vb (UInt8.ofNat ((8 * s.n).toNat / 2 ^ (56 - 8 * i.toNat)))] = (128 :: (List.replicate (Sha.zerosFor s.n.toNat) (0 : UInt8) ++ (Sha.be8 (8 * s.n)).take (i + 1).toNat)).map vb := by rw [show (i + 1).toNat = i.toNat + 1 by omega, Sha.be8_step _ _ (by omega)]; simp
    rw [e, show 1 + Sha.zerosFor s.n.toNat + i.toNat + 1 = 1 + Sha.zerosFor s.n.toNat + (i + 1).toNat by omega] at hS
    exact hS
  ·obtain rfl : i = 8 := by omega
   rw [show (8 : Int).toNat = 8 from rfl, List.take_of_length_le (by omega)] at hS
   have hpl := Sha.pad_len s.n
   have hal := Sha.adds_len s h8 h64 (Sha.pad s.n)
   change St _ [] [.row _ 5 1 _ ((Sha.pad s.n).map vb), _, _] _ at hS
   refine wp_exit ?_
   refine hK7 _ _ ?_
   refine reglS fun K13 hK13 => ?_
   refine lQ hF hS (q0 (q_ld_blkW ty223 2 rfl rfl bQ rfl) <| mQ rfl <| q0 (q_b2s_row ty25 ty9 ty5 0 rfl rfl) <| q0 (q_call fn143 rfl (fun w hS => add_ct _ _ (by first | assumption | rfl | (simp only [*]; done)) (by first | assumption | rfl | (simp only [*]; done)) (by first | assumption | omega | (simp; done) | (simp; omega) | (simp only [*]; omega)) w (hS.ext _ _ hg1)) (fun _ _ _ h => h)) <| sq_end) fun a w hF hS => ?_
   refine eQ hF hS rfl (ef_storeW ty223 2 rfl rfl rfl rfl bQ oQ bQ) ?_
   rintro _ _ _ a w ⟨rfl, rfl, rfl⟩ hF hS
   (try dsimp only [segs] at hS)
   replace hS := nl0_3 hS
   refine wpList_nil (hK13 _ _ ?_)
   refine reglS fun K14 hK14 => ?_
   refine eQ hF hS rfl (ef_allocA ty182) ?_
   rintro _ _ _ a w ⟨b11, rfl, rfl, rfl⟩ hF hS
   rw [show List.replicate 32 (Value.int .u8 0) = (List.replicate 32 (0 : UInt8)).map vb from by rw [List.map_replicate] <;> rfl] at hS
   refine wpList_nil (hK14 _ _ ?_)
   refine k0 ?_; intro K15 hK15
   refine regS hF hS (mQ rfl <| sq_end) fun a w hF hS => ?_
   refine wp_block ?_
   obtain ⟨hs0, hhs0, hS⟩ := hS.oh
   refine wp_loopx (γ := Int) (0) (fun (i : Int) => [(40, vi i)]) [(1, _), (2, _), (6, _)] (fun (i : Int) => (hs0.set 0 (.blk b11 182 ((Sha.outW (Sha.adds s (Sha.pad s.n)).st i.toNat).map vb)))) (fun (i : Int) => 0 ≤ i ∧ i ≤ 32) (fun (i : Int) => (32 - i).toNat) (hF.sub ⟨rfl, rfl, rfl, rfl, trivial⟩) (by subst hhs0; exact hS) (by simp) ?_
   rintro i a w hfact hF hS
   subst hhs0; (try dsimp only at hfact hF hS)
   obtain ⟨hi0, hi1⟩ := hfact
   replace hS := nl0_4 hS
   have hol := Sha.outW_len (Sha.adds s (Sha.pad s.n)).st i.toNat
   refine regS hF hS (q0 (q_lti rfl rfl) <| sq_end) fun a w hF hS => ?_
   refine k0 ?_; intro K18 hK18
   refine wp_ifd hF rfl (fun hc3 => ?_) (fun hc3 => ?_)
   ·refine wp_skip ?_
    refine hK18 _ _ ?_
    refine k0 ?_; intro K19 hK19
    refine wp_block ?_
    refine regS hF hS (mQ rfl <| aQ rfl <| sq_end) fun a w hF hS => ?_
    refine regl ?_
    refine lQ hF hS (mQ rfl <| mQ rfl <| q0 (q_quoi rfl rfl (by omega)) <| q0 (q_fieldAddr ty223 rfl rfl (s' := 7) kQ) <| q0 (q_idx_arr ty221 ty220 rfl rfl (by omega)) <| q0 (q_ld_segM ty220 3 [] (0 : UInt32) rfl rfl bQ bQ rfl) <| mQ rfl <| q0 (q_remi rfl rfl (by omega)) <| q0 (q_muli rfl rfl (by omega)) <| dQ rfl rfl <| q0 (q_shrw rfl rfl (by omega)) <| q0 (q_cv_wb ty220 ty5 rfl) <| q0 (q_idx_arr0 ty182 ty5 rfl rfl (by omega)) <| sq_end) fun a w hF hS => ?_
    refine eQ hF hS rfl (ef_st_blkM ty5 0 rfl rfl rfl bQ rfl) ?_
    rintro _ _ _ a w ⟨rfl, rfl, rfl⟩ hF hS
    replace hS := nl0_4 hS
    refine wpList_nil (hK19 _ _ ?_)
    refine reg hF hS (pQ rfl rfl <| mQ rfl <| sq_end) fun a w hF hS => ?_
    refine ⟨(i + 1), ?_, ?_, hF.sub ⟨rfl, rfl, rfl, rfl, trivial⟩, ?_⟩
    ·(try dsimp only); omega
    ·(try dsimp only); omega
    ·rw [Sha.byte_w _ i ⟨hi0, by omega⟩, Sha.outW_step _ _ (by omega), show i.toNat + 1 = (i + 1).toNat by omega] at hS
     exact hS
   ·obtain rfl : i = 32 := by omega
    rw [show (32 : Int).toNat = 32 from rfl, Sha.outW_32] at hS
    have hob := Sha.outB_len (Sha.adds s (Sha.pad s.n)).st
    refine wp_exit ?_
    refine hK15 _ _ ?_
    refine reglS fun K21 hK21 => ?_
    refine lQ hF hS (q0 (q_ld_blkW ty182 0 rfl rfl bQ rfl) <| sq_end) fun a w hF hS => ?_
    refine eQ hF hS rfl (ef_storeW ty182 2 rfl rfl rfl rfl bQ oQ bQ) ?_
    rintro _ _ _ a w ⟨rfl, rfl, rfl⟩ hF hS
    replace hS := nl0_4 hS
    refine wpList_nil (hK21 _ _ ?_)
    refine wp_ret ?_
    exact fn_ret (rs := [.cell 2 182]) rfl hF hS (vs := [_]) ⟨⟨_, _, _, _, _, _, _, rfl, List.mem_of_getElem? (i := 2) rfl, ty182, .inl ⟨rfl, bQ, rfl⟩⟩, trivial⟩ zQ zQ (rfl)
end
section
theorem fn142 : FnOk Tryz.prog 142 := fQ Tryz.func142
theorem fn144 : FnOk Tryz.prog 144 := fQ Tryz.func144
theorem sum_ct (v : Value) (xs : List UInt8) (hx : xs.length < 1099511627776) (w : World) (hb : Sl encB (ph w) v xs) {fz1 : Nat × Nat} {bt1 : TypeId} (hg1 : w.heap[1]? = some (.cells (Sha.kc.map vw).toArray bt1 fz1)) : Ct Tryz.prog 101 [v] w (fun r _ _ => r = .agg ((Sha.sum xs).map vb).toArray) := by
 refine fn_enter Tryz.func101 rfl Tryz.ntmps101 (Nat.le_of_ble_eq_true rfl) fun a hF hS => ?_
 have hal := Sha.adds_len Sha.begin_ Sha.begin_8 Sha.begin_64 xs
 have han := Sha.adds_nlt Sha.begin_ xs (by rw [Sha.begin_n]; omega)
 rw [Sha.begin_n] at han
 have hsl := Sha.sum_len xs
 have hfl := Sha.fin_len (Sha.adds Sha.begin_ xs)
 refine reglS fun K1 hK1 => ?_
 refine eQ hF hS rfl (ef_allocA ty182) ?_
 rintro _ _ _ a w ⟨b1, rfl, rfl, rfl⟩ hF hS
 rw [show List.replicate 32 (Value.int .u8 0) = (List.replicate 32 (0 : UInt8)).map vb from by rw [List.map_replicate] <;> rfl] at hS
 refine wpList_nil (hK1 _ _ ?_)
 refine k0 ?_; intro K2 hK2
 refine regt 5 mixed kQ hF hS (q0 (q_call fn142 rfl (fun w hS => begin_ct w ) (fun _ _ _ h => h)) <| mQ rfl <| q0 (q_b2s_sl ty25 ty9 ty5 hb zin0 rfl) <| q0 (q_call fn143 rfl (fun w hS => add_ct _ _ (by first | assumption | rfl | (simp only [*]; done)) (by first | assumption | rfl | (simp only [*]; done)) (by first | assumption | omega | (simp; done) | (simp; omega) | (simp only [*]; omega)) w (hS.ext _ _ hg1)) (fun _ _ _ h => h)) <| q0 (q_call fn144 rfl (fun w hS => ssum_ct _ (by first | assumption | (simp [*]; done)) (by first | assumption | (simp [*]; done)) (by first | assumption | omega) w (hS.ext _ _ hg1)) (fun _ _ _ h => h)) <| sq_end) fun a w hF hS => ?_
 refine eQ hF hS rfl (ef_storeW ty182 0 rfl rfl rfl rfl bQ oQ bQ) ?_
 rintro _ _ _ a w ⟨rfl, rfl, rfl⟩ hF hS
 replace hS := nl0_1 hS
 refine wpList_nil (hK2 _ _ ?_)
 refine wp_ret ?_
 exact fn_ret (rs := [.cell 2 182]) rfl hF hS (vs := [_]) ⟨⟨_, _, _, _, _, _, _, rfl, List.mem_of_getElem? (i := 0) rfl, ty182, .inl ⟨rfl, bQ, rfl⟩⟩, trivial⟩ zQ zQ (rfl)
end
section
attribute [local irreducible] Sha.adds Sha.fin Sha.sum Sha.padK Sha.comp Sha.mac Sha.keyOf Sha.sch Sha.rounds Sha.outB
end
section
theorem fn57 : FnOk Tryz.prog 57 := fQ Tryz.func57
theorem wint_ct (n : Int) (w : World) : Ct Tryz.prog 57 [vi n] w (fun v zs hs => zs = [] ∧ hs = [.row v 5 1 (Wi.int n).length ((Wi.int n).map vb)]) := by
 refine fn_enter Tryz.func57 rfl Tryz.ntmps57 (Nat.le_of_ble_eq_true rfl) fun a hF hS => ?_
 refine regS hF hS (aQ rfl <| sq_end) fun a w hF hS => ?_
 refine wp_scope_straight ?_
 refine regS hF hS (mQ rfl <| q0 (q_cv_iq ty3 ty179 rfl) <| aQ rfl <| aQ rfl <| sq_end) fun a w hF hS => ?_
 obtain ⟨hs0, hhs0, hS⟩ := hS.oh
 refine wp_cutx (γ := UInt64 × UInt8) (fun (m, fl) => [(3, vq m), (4, vb fl)]) [] (fun (m, fl) => hs0) (fun (m, fl) => m = Wi.mOf n ∧ fl = Wi.flOf n) (hF.sub trivial) hS ?_ ?_
 ·subst hhs0
  refine regS hF hS (mQ rfl <| q0 (q_lti rfl rfl) <| sq_end) fun a w hF hS => ?_
  refine wp_ifd hF rfl (fun hc1 => ?_) (fun hc1 => ?_)
  ·refine reg hF hS (mQ rfl <| q0 (q_notq rfl) <| aQ rfl <| aQ rfl <| sq_end) fun a w hF hS => ?_
   refine ⟨(~~~(ofq n), 255), ?_, hF.sub ⟨rfl, rfl, trivial⟩, ?_⟩
   ·exact ⟨by unfold Wi.mOf; rw [if_pos hc1], by unfold Wi.flOf; rw [if_pos hc1]⟩
   ·exact hS
  ·refine wp_skip ?_
   refine ⟨(ofq n, 0), ?_, hF.sub ⟨rfl, rfl, trivial⟩, ?_⟩
   ·exact ⟨by unfold Wi.mOf; rw [if_neg hc1], by unfold Wi.flOf; rw [if_neg hc1]⟩
   ·exact hS
 rintro ⟨m, fl⟩ a w hfact hF hS
 subst hhs0; (try dsimp only at hfact hF hS)
 obtain ⟨hm, hfl⟩ := hfact
 replace hS : St _ [] [] _ := hS
 refine regS hF hS (aQ rfl <| sq_end) fun a w hF hS => ?_
 refine k0 ?_; intro K5 hK5
 refine wp_label ?_
 refine hK5 _ _ ?_
 obtain ⟨hs0, hhs0, hS⟩ := hS.oh
 refine wp_cutx (γ := Nat) (fun (k : Nat) => [(5, vi (k : Int))]) [(3, _), (4, _)] (fun (k : Nat) => hs0) (fun (k : Nat) => k ≤ 8 ∧ k = Wi.nb m) (hF.sub ⟨rfl, rfl, trivial⟩) hS ?_ ?_
 ·subst hhs0
  refine wp_block ?_
  obtain ⟨hs0, hhs0, hS⟩ := hS.oh
  refine wp_loopx (γ := Nat) (8) (fun (k : Nat) => [(5, vi (k : Int))]) [(3, _), (4, _)] (fun (k : Nat) => hs0) (fun (k : Nat) => k ≤ 8 ∧ Wi.nbF m k = Wi.nb m) (fun (k : Nat) => k) (hF.sub ⟨rfl, rfl, rfl, trivial⟩) (by subst hhs0; exact hS) (by exact ⟨Nat.le_refl _, rfl⟩) ?_
  rintro k a w hfact hF hS
  subst hhs0; (try dsimp only at hfact hF hS)
  obtain ⟨hk8, hnb⟩ := hfact
  replace hS : St _ [] [] _ := hS
  refine k0 ?_; intro K6 hK6
  refine regS hF hS (mQ rfl <| q0 (q_gti rfl rfl) <| sq_end) fun a w hF hS => ?_
  refine wp_ifd hF rfl (fun hc2 => ?_) (fun hc2 => ?_)
  ·obtain ⟨k, rfl⟩ : ∃ j, k = j + 1 := ⟨k - 1, by omega⟩
   refine wp_skip ?_
   refine hK6 _ _ ?_
   refine wp_block ?_
   refine k0 ?_; intro K8 hK8
   refine regS hF hS (mQ rfl <| mQ rfl <| dQ rfl rfl <| q0 (q_muli rfl rfl (by omega)) <| q0 (q_shrq rfl rfl (by omega)) <| q0 (q_gtq (q := 0) rfl rfl) <| sq_end) fun a w hF hS => ?_
   refine wp_ifd hF rfl (fun hc3 => ?_) (fun hc3 => ?_)
   ·rw [show ((k + 1 : Nat) : Int) - 1 = (k : Int) by omega, Wi.top_q m k (by omega)] at hc3
    refine wp_exit ?_
    refine ⟨(k + 1), ?_, hF.sub ⟨rfl, rfl, rfl, trivial⟩, ?_⟩
    ·refine ⟨hk8, ?_⟩
     rw [← hnb]
     unfold Wi.nbF
     rw [if_neg hc3]
    ·exact hS
   ·rw [show ((k + 1 : Nat) : Int) - 1 = (k : Int) by omega, Wi.top_q m k (by omega)] at hc3
    refine wp_skip ?_
    refine hK8 _ _ ?_
    refine reg hF hS (mQ rfl <| dQ rfl rfl <| aQ rfl <| sq_end) fun a w hF hS => ?_
    rw [show ((k + 1 : Nat) : Int) - 1 = (k : Int) by omega] at hF
    refine ⟨(k), ?_, ?_, hF.sub ⟨rfl, rfl, rfl, trivial⟩, ?_⟩
    ·(try dsimp only); omega
    ·refine ⟨by omega, ?_⟩
     rw [← hnb]
     conv => rhs; unfold Wi.nbF
     rw [if_pos (Classical.not_not.1 hc3)]
    ·exact hS
  ·refine wp_exit ?_
   refine ⟨(k), ?_, hF.sub ⟨rfl, rfl, rfl, trivial⟩, ?_⟩
   ·refine ⟨hk8, ?_⟩
    obtain rfl : k = 0 := by omega
    exact hnb
   ·exact hS
 rintro k a w hfact hF hS
 subst hhs0; (try dsimp only at hfact hF hS)
 obtain ⟨hk8, hkn⟩ := hfact
 replace hS : St _ [] [] _ := hS
 refine reglS fun K10 hK10 => ?_
 refine lQ hF hS (mQ rfl <| pQ rfl rfl <| q0 (q_cv_ib ty3 ty5 rfl) <| mQ rfl <| q0 (q_xorb rfl rfl) <| sq_end) fun a w hF hS => ?_
 refine eQ hF hS rfl (ef_bsliceA ty25 ty5 rfl rfl oQ (by decide) rfl rfl) ?_
 rintro v1 _ _ a w ⟨rfl, rfl⟩ hF hS
 replace hS := nl0_1 hS
 refine lQ hF hS (aQ rfl <| sq_end) fun a w hF hS => ?_
 refine wpList_nil (hK10 _ _ ?_)
 refine k0 ?_; intro K11 hK11
 refine regS hF hS (mQ rfl <| dQ rfl rfl <| aQ rfl <| sq_end) fun a w hF hS => ?_
 refine wp_block ?_
 obtain ⟨hs0, hhs0, hS⟩ := hS.oh
 refine wp_loopx (γ := Value × Nat) (v1, k) (fun (v, i) => [(6, v), (7, vi ((i : Int) - 1))]) [(3, _), (4, _)] (fun (v, i) => (hs0.set 0 (.row v 5 1 (1 + (k - i)) (((UInt8.ofNat (128 + k) ^^^ fl) :: Wi.digsFrom m fl k i).map vb)))) (fun (v, i) => i ≤ k) (fun (v, i) => i) (hF.sub ⟨rfl, rfl, rfl, rfl, trivial⟩) (by subst hhs0; rw [show (128 : Int) + (k : Int) = ((128 + k : Nat) : Int) by omega, Wi.ofb_nat] at hS; simpa [Wi.digsFrom] using hS) (by exact Nat.le_refl _) ?_
 rintro ⟨v, i⟩ a w hfact hF hS
 subst hhs0; (try dsimp only at hfact hF hS)
 have hik := hfact
 replace hS := nl0_1 hS
 refine k0 ?_; intro K13 hK13
 refine regS hF hS (mQ rfl <| q0 (q_gei rfl rfl) <| sq_end) fun a w hF hS => ?_
 refine wp_ifd hF rfl (fun hc4 => ?_) (fun hc4 => ?_)
 ·refine wp_skip ?_
  refine hK13 _ _ ?_
  refine k0 ?_; intro K15 hK15
  refine wp_block ?_
  refine regl ?_
  refine lQ hF hS (mQ rfl <| mQ rfl <| mQ rfl <| q0 (q_muli rfl rfl (by omega)) <| q0 (q_shrq rfl rfl (by omega)) <| q0 (q_cv_qb ty179 ty5 rfl) <| mQ rfl <| q0 (q_xorb rfl rfl) <| sq_end) fun a w hF hS => ?_
  refine eQ hF hS rfl (ef_bsliceA ty25 ty5 rfl rfl oQ (by decide) rfl rfl) ?_
  rintro v3 _ _ a w ⟨rfl, rfl⟩ hF hS
  replace hS := nl0_2 hS
  refine eQ hF hS rfl (ef_append ty25 ty5 1 rfl rfl rfl (src_row ty25 (k := 0) rfl oQ) bQ rfl (by decide)) ?_
  rintro v5 _ _ a w ⟨rfl, rfl⟩ hF hS
  replace hS := nl0_2 hS
  refine lQ hF hS (aQ rfl <| sq_end) fun a w hF hS => ?_
  refine wpList_nil (hK15 _ _ ?_)
  refine reg hF hS (mQ rfl <| dQ rfl rfl <| aQ rfl <| sq_end) fun a w hF hS => ?_
  rw [show (i : Int) - 1 - 1 = ((i - 1 : Nat) : Int) - 1 by omega] at hF
  replace hS := hS.keep zQ (sQ.n)
  refine ⟨(v5, i - 1), ?_, ?_, hF.sub ⟨rfl, rfl, rfl, rfl, trivial⟩, ?_⟩
  ·(try dsimp only); omega
  ·(try dsimp only); omega
  ·rw [Wi.digit_q m fl ((i : Int) - 1) (by omega), show ((i : Int) - 1).toNat = i - 1 by omega] at hS
   have e : ((UInt8.ofNat (128 + k) ^^^ fl) :: Wi.digsFrom m fl k i).map vb ++ [vb (Wi.digit m fl (i - 1))] = ((UInt8.ofNat (128 + k) ^^^ fl) :: Wi.digsFrom m fl k (i - 1)).map vb := by rw [← Wi.digs_step m fl k (i - 1) (by omega), show i - 1 + 1 = i by omega]; simp
   rw [e, show 1 + (k - i) + 1 = 1 + (k - (i - 1)) by omega] at hS
   exact hS
 ·obtain rfl : i = 0 := by omega
  have e : (UInt8.ofNat (128 + k) ^^^ fl) :: Wi.digsFrom m fl k 0 = Wi.int n := by rw [hm, hfl, hkn, hm]; rfl
  have el : 1 + (k - 0) = (Wi.int n).length := by rw [← e]; simp [Wi.digs_len]; omega
  rw [e, el] at hS
  refine wp_exit ?_
  refine hK11 _ _ ?_
  refine regS hF hS (mQ rfl <| aQ rfl <| sq_end) fun a w hF hS => ?_
  refine wp_ret ?_
  exact fn_ret (rs := [.tmp 2]) rfl hF hS (vs := [_]) ⟨rfl, trivial⟩ zQ sQ ⟨rfl, rfl⟩
theorem wbytes_ct (t : List UInt8) (ht : t.length < 1099511627776) (w : World) : Ct Tryz.prog 58 [vs t] w (fun v zs hs => zs = [] ∧ hs = [.row v 5 1 (Wi.bytes t).length ((Wi.bytes t).map vb)]) := by
 refine fn_enter Tryz.func58 rfl Tryz.ntmps58 (Nat.le_of_ble_eq_true rfl) fun a hF hS => ?_
 have hil := Wi.int_len9 t.length
 refine regS hF hS (aQ rfl <| sq_end) fun a w hF hS => ?_
 refine reglS fun K2 hK2 => ?_
 refine lQ hF hS (mQ rfl <| q0 (q_len_s ty9 rfl) <| sq_end) fun a w hF hS => ?_
 refine eQ hF hS rfl (ef_call fn57 rfl (fun w hS => wint_ct _ w )) ?_
 rintro v1 _ _ a w ⟨_, _, rfl, rfl, rfl, rfl⟩ hF hS
 replace hS := nl0_1 hS
 refine lQ hF hS (mQ rfl <| sq_end) fun a w hF hS => ?_
 refine eQ hF hS rfl (ef_append ty25 ty5 0 rfl rfl rfl (src_str ty9 _) bQ rfl (by decide)) ?_
 rintro v3 _ _ a w ⟨rfl, rfl⟩ hF hS
 replace hS := nl0_1 hS
 refine lQ hF hS (aQ rfl <| sq_end) fun a w hF hS => ?_
 refine wpList_nil (hK2 _ _ ?_)
 refine wp_ret ?_
 rw [← List.map_append, show (Wi.int t.length).length + t.length = (Wi.bytes t).length by simp [Wi.bytes]] at hS
 exact fn_ret (rs := [.tmp 2]) rfl hF hS (vs := [_]) ⟨rfl, trivial⟩ zQ sQ ⟨rfl, rfl⟩
end
section
theorem ty40 : Tf Tryz.prog 40 (.slice 9) 1 24 (Value.slice none 0 0) := ⟨Tryz.underlying40, by kernel_rfl⟩
theorem ty62 : Tf Tryz.prog 62 (.array 16 5) 16 16 (.agg (List.replicate 16 (Value.int .u8 0)).toArray) := ⟨Tryz.underlying62, by kernel_rfl⟩
theorem fn58 : FnOk Tryz.prog 58 := fQ Tryz.func58
@[simp] theorem stmC_len (s : Sha.Stm) : (stmC s).length = s.st.length + (s.bl.length + 1) := by simp [stmC]
attribute [local irreducible] Sha.adds Sha.fin Sha.sum Sha.comp Sha.sch Sha.rounds Sha.outB Sha.ofS Sha.ofD Wi.int Wi.bytes
theorem of_ct (tag : Int) (v : Value) (ps : List (List UInt8)) (hp : ∀ p ∈ ps, p.length < 1048576) (hl : ps.length < 1048576) (w : World) (hb : Sl Go.Fw.encS (ph w) v ps) {fz1 : Nat × Nat} {bt1 : TypeId} (hg1 : w.heap[1]? = some (.cells (Sha.kc.map vw).toArray bt1 fz1)) : Ct Tryz.prog 115 [vi tag, v] w (fun r _ _ => r = .agg ((Sha.ofD tag ps).map vb).toArray) := by
 refine fn_enter Tryz.func115 rfl Tryz.ntmps115 (Nat.le_of_ble_eq_true rfl) fun a hF hS => ?_
 have hA := Sha.adds_len Sha.begin_ Sha.begin_8 Sha.begin_64 [ofb tag]
 obtain ⟨hA1, hA2⟩ := hA
 refine reglS fun K1 hK1 => ?_
 refine eQ hF hS rfl (ef_allocA ty62) ?_
 rintro _ _ _ a w ⟨b1, rfl, rfl, rfl⟩ hF hS
 rw [show List.replicate 16 (Value.int .u8 0) = (List.replicate 16 (0 : UInt8)).map vb from by rw [List.map_replicate] <;> rfl] at hS
 refine wpList_nil (hK1 _ _ ?_)
 refine k0 ?_; intro K2 hK2
 revert hS; revert hF; apply regJ (J := J2 (α0 := Value) (α1 := Nat) 32 _ _ _ _ _) #[false, false, false, false, false, false, false, false] 8 mixed rfl rfl
 ·intro w hF hS
  refine tQ 1 rfl hF (hS.keep sQ zQ) (q_move rfl) fun a hF => ?_
  refine tQ 2 rfl hF (hS.keep sQ zQ) (q_cv_ib ty3 ty5 rfl) fun a hF => ?_
  refine goW_fork [0, 3, 6] kQ rfl ⟨?_, ?_, ?_, trivial⟩
  ·refine stepW_ef _ rfl rfl hF hS rfl (ef_qt (q_call fn142 rfl (fun w hS => begin_ct w ) (fun _ _ _ h => h))) ?_
   rintro _ _ _ a w ⟨rfl, rfl, rfl⟩ hF hS
   refine ⟨⟨.inr hS.k0, .inr hS.k0, trivial⟩, ?_⟩
   refine goW_fork [3, 6] kQ rfl ⟨?_, ?_, trivial⟩
   ·refine stepW_ef _ rfl rfl hF hS rfl (ef_bsliceA ty25 ty5 rfl rfl oQ (by decide) rfl rfl) ?_
    rintro v_1_3 _ _ a w ⟨rfl, rfl⟩ hF hS
    refine ⟨⟨iQ, iQ, trivial⟩, ?_⟩
    refine tQ 4 rfl hF (hS.keep sQ (zQ.k)) (q_b2s_row (xs := [_]) ty25 ty9 ty5 0 rfl rfl) fun a hF => ?_
    refine goW_fork [5, 6] kQ rfl ⟨?_, ?_, trivial⟩
    ·refine stepW_ef _ rfl rfl hF hS rfl (ef_qt (q_call fn143 rfl (fun w hS => add_ct _ _ (by first | assumption | rfl | (simp only [*]; done)) (by first | assumption | rfl | (simp only [*]; done)) (by first | assumption | omega | (simp; done) | (simp; omega) | (simp only [*]; omega)) w (hS.ext _ _ hg1)) (fun _ _ _ h => h))) ?_
     rintro _ _ _ a w ⟨rfl, rfl, rfl⟩ hF hS
     refine ⟨⟨iQ, iQ, iQ, trivial⟩, ?_⟩
     refine gQ 6 rfl rfl hF hS rfl (ef_allocA ty223) ?_
     rintro _ _ _ a w ⟨b_1_6, rfl, rfl, rfl⟩ hF hS
     refine ⟨⟨iQ, iQ, iQ, trivial⟩, ?_⟩
     refine gQ 7 rfl rfl hF hS rfl (ef_storeW ty223 0 rfl rfl rfl rfl bQ oQ bQ) ?_
     rintro _ _ _ a w ⟨rfl, rfl, rfl⟩ hF hS
     (try dsimp only [segs] at hS)
     replace hS := nl0_3 hS
     refine ⟨⟨iQ, iQ, iQ, trivial⟩, ?_⟩
     exact goW_done kQ (j2_mk v_1_3 b_1_6 (trivial) (hF.sub (L' := [(1, _), (4, _), (5, _)]) ⟨rfl, rfl, rfl, trivial⟩) hS)
    ·refine stepW_ef _ rfl rfl hF hS rfl (ef_allocA ty223) ?_
     rintro _ _ _ a w ⟨b_1_6, rfl, rfl, rfl⟩ hF hS
     refine ⟨⟨.inr (hS.k1 (zQ.k.n)), iQ, iQ, trivial⟩, ?_⟩
     refine gQ 5 rfl rfl hF hS rfl (ef_qt (q_call fn143 rfl (fun w hS => add_ct _ _ (by first | assumption | rfl | (simp only [*]; done)) (by first | assumption | rfl | (simp only [*]; done)) (by first | assumption | omega | (simp; done) | (simp; omega) | (simp only [*]; omega)) w (hS.ext _ _ hg1)) (fun _ _ _ h => h))) ?_
     rintro _ _ _ a w ⟨rfl, rfl, rfl⟩ hF hS
     refine ⟨⟨iQ, iQ, iQ, trivial⟩, ?_⟩
     refine gQ 7 rfl rfl hF hS rfl (ef_storeW ty223 0 rfl rfl rfl rfl bQ oQ bQ) ?_
     rintro _ _ _ a w ⟨rfl, rfl, rfl⟩ hF hS
     (try dsimp only [segs] at hS)
     replace hS := nl0_3 hS
     refine ⟨⟨iQ, iQ, iQ, trivial⟩, ?_⟩
     exact goW_done kQ (j2_mk v_1_3 b_1_6 (trivial) (hF.sub (L' := [(1, _), (4, _), (5, _)]) ⟨rfl, rfl, rfl, trivial⟩) hS)
   ·refine stepW_ef _ rfl rfl hF hS rfl (ef_allocA ty223) ?_
    rintro _ _ _ a w ⟨b_1_6, rfl, rfl, rfl⟩ hF hS
    refine ⟨⟨.inr hS.k0, .inr hS.k0, trivial⟩, ?_⟩
    refine gQ 3 rfl rfl hF hS rfl (ef_bsliceA ty25 ty5 rfl rfl oQ (by decide) rfl rfl) ?_
    rintro v_1_3 _ _ a w ⟨rfl, rfl⟩ hF hS
    refine ⟨⟨iQ, iQ, trivial⟩, ?_⟩
    refine tQ 4 rfl hF (hS.keep sQ (zQ.k)) (q_b2s_row (xs := [_]) ty25 ty9 ty5 0 rfl rfl) fun a hF => ?_
    refine gQ 5 rfl rfl hF hS rfl (ef_qt (q_call fn143 rfl (fun w hS => add_ct _ _ (by first | assumption | rfl | (simp only [*]; done)) (by first | assumption | rfl | (simp only [*]; done)) (by first | assumption | omega | (simp; done) | (simp; omega) | (simp only [*]; omega)) w (hS.ext _ _ hg1)) (fun _ _ _ h => h))) ?_
    rintro _ _ _ a w ⟨rfl, rfl, rfl⟩ hF hS
    refine ⟨⟨iQ, iQ, iQ, trivial⟩, ?_⟩
    refine gQ 7 rfl rfl hF hS rfl (ef_storeW ty223 1 rfl rfl rfl rfl bQ oQ bQ) ?_
    rintro _ _ _ a w ⟨rfl, rfl, rfl⟩ hF hS
    (try dsimp only [segs] at hS)
    replace hS := nl0_3 hS
    refine ⟨⟨iQ, iQ, iQ, trivial⟩, ?_⟩
    exact goW_done kQ (j2_mk v_1_3 b_1_6 (trivial) (hF.sub (L' := [(1, _), (4, _), (5, _)]) ⟨rfl, rfl, rfl, trivial⟩) (hS.perm (.swap _ _ _)))
  ·refine stepW_ef _ rfl rfl hF hS rfl (ef_bsliceA ty25 ty5 rfl rfl oQ (by decide) rfl rfl) ?_
   rintro v_1_3 _ _ a w ⟨rfl, rfl⟩ hF hS
   refine ⟨⟨iQ, iQ, trivial⟩, ?_⟩
   refine tQ 4 rfl hF (hS.keep sQ (zQ.k)) (q_b2s_row (xs := [_]) ty25 ty9 ty5 0 rfl rfl) fun a hF => ?_
   refine goW_fork [0, 6] kQ rfl ⟨?_, ?_, trivial⟩
   ·refine stepW_ef _ rfl rfl hF hS rfl (ef_qt (q_call fn142 rfl (fun w hS => begin_ct w ) (fun _ _ _ h => h))) ?_
    rintro _ _ _ a w ⟨rfl, rfl, rfl⟩ hF hS
    refine ⟨⟨.inr (hS.k1 (zQ.k)), iQ, iQ, trivial⟩, ?_⟩
    refine goW_fork [5, 6] kQ rfl ⟨?_, ?_, trivial⟩
    ·refine stepW_ef _ rfl rfl hF hS rfl (ef_qt (q_call fn143 rfl (fun w hS => add_ct _ _ (by first | assumption | rfl | (simp only [*]; done)) (by first | assumption | rfl | (simp only [*]; done)) (by first | assumption | omega | (simp; done) | (simp; omega) | (simp only [*]; omega)) w (hS.ext _ _ hg1)) (fun _ _ _ h => h))) ?_
     rintro _ _ _ a w ⟨rfl, rfl, rfl⟩ hF hS
     refine ⟨⟨iQ, iQ, iQ, trivial⟩, ?_⟩
     refine gQ 6 rfl rfl hF hS rfl (ef_allocA ty223) ?_
     rintro _ _ _ a w ⟨b_1_6, rfl, rfl, rfl⟩ hF hS
     refine ⟨⟨iQ, iQ, iQ, trivial⟩, ?_⟩
     refine gQ 7 rfl rfl hF hS rfl (ef_storeW ty223 0 rfl rfl rfl rfl bQ oQ bQ) ?_
     rintro _ _ _ a w ⟨rfl, rfl, rfl⟩ hF hS
     (try dsimp only [segs] at hS)
     replace hS := nl0_3 hS
     refine ⟨⟨iQ, iQ, iQ, trivial⟩, ?_⟩
     exact goW_done kQ (j2_mk v_1_3 b_1_6 (trivial) (hF.sub (L' := [(1, _), (4, _), (5, _)]) ⟨rfl, rfl, rfl, trivial⟩) hS)
    ·refine stepW_ef _ rfl rfl hF hS rfl (ef_allocA ty223) ?_
     rintro _ _ _ a w ⟨b_1_6, rfl, rfl, rfl⟩ hF hS
     refine ⟨⟨.inr (hS.k1 (zQ.k.n)), iQ, iQ, trivial⟩, ?_⟩
     refine gQ 5 rfl rfl hF hS rfl (ef_qt (q_call fn143 rfl (fun w hS => add_ct _ _ (by first | assumption | rfl | (simp only [*]; done)) (by first | assumption | rfl | (simp only [*]; done)) (by first | assumption | omega | (simp; done) | (simp; omega) | (simp only [*]; omega)) w (hS.ext _ _ hg1)) (fun _ _ _ h => h))) ?_
     rintro _ _ _ a w ⟨rfl, rfl, rfl⟩ hF hS
     refine ⟨⟨iQ, iQ, iQ, trivial⟩, ?_⟩
     refine gQ 7 rfl rfl hF hS rfl (ef_storeW ty223 0 rfl rfl rfl rfl bQ oQ bQ) ?_
     rintro _ _ _ a w ⟨rfl, rfl, rfl⟩ hF hS
     (try dsimp only [segs] at hS)
     replace hS := nl0_3 hS
     refine ⟨⟨iQ, iQ, iQ, trivial⟩, ?_⟩
     exact goW_done kQ (j2_mk v_1_3 b_1_6 (trivial) (hF.sub (L' := [(1, _), (4, _), (5, _)]) ⟨rfl, rfl, rfl, trivial⟩) hS)
   ·refine stepW_ef _ rfl rfl hF hS rfl (ef_allocA ty223) ?_
    rintro _ _ _ a w ⟨b_1_6, rfl, rfl, rfl⟩ hF hS
    refine ⟨⟨.inr (hS.k1 (zQ.k.n)), iQ, iQ, trivial⟩, ?_⟩
    refine gQ 0 rfl rfl hF hS rfl (ef_qt (q_call fn142 rfl (fun w hS => begin_ct w ) (fun _ _ _ h => h))) ?_
    rintro _ _ _ a w ⟨rfl, rfl, rfl⟩ hF hS
    refine ⟨⟨.inr (hS.k1 (zQ.k.n)), iQ, iQ, trivial⟩, ?_⟩
    refine gQ 5 rfl rfl hF hS rfl (ef_qt (q_call fn143 rfl (fun w hS => add_ct _ _ (by first | assumption | rfl | (simp only [*]; done)) (by first | assumption | rfl | (simp only [*]; done)) (by first | assumption | omega | (simp; done) | (simp; omega) | (simp only [*]; omega)) w (hS.ext _ _ hg1)) (fun _ _ _ h => h))) ?_
    rintro _ _ _ a w ⟨rfl, rfl, rfl⟩ hF hS
    refine ⟨⟨iQ, iQ, iQ, trivial⟩, ?_⟩
    refine gQ 7 rfl rfl hF hS rfl (ef_storeW ty223 0 rfl rfl rfl rfl bQ oQ bQ) ?_
    rintro _ _ _ a w ⟨rfl, rfl, rfl⟩ hF hS
    (try dsimp only [segs] at hS)
    replace hS := nl0_3 hS
    refine ⟨⟨iQ, iQ, iQ, trivial⟩, ?_⟩
    exact goW_done kQ (j2_mk v_1_3 b_1_6 (trivial) (hF.sub (L' := [(1, _), (4, _), (5, _)]) ⟨rfl, rfl, rfl, trivial⟩) hS)
  ·refine stepW_ef _ rfl rfl hF hS rfl (ef_allocA ty223) ?_
   rintro _ _ _ a w ⟨b_1_6, rfl, rfl, rfl⟩ hF hS
   refine ⟨⟨.inr hS.k0, .inr hS.k0, trivial⟩, ?_⟩
   refine goW_fork [0, 3] kQ rfl ⟨?_, ?_, trivial⟩
   ·refine stepW_ef _ rfl rfl hF hS rfl (ef_qt (q_call fn142 rfl (fun w hS => begin_ct w ) (fun _ _ _ h => h))) ?_
    rintro _ _ _ a w ⟨rfl, rfl, rfl⟩ hF hS
    refine ⟨⟨.inr hS.k0, .inr hS.k0, trivial⟩, ?_⟩
    refine gQ 3 rfl rfl hF hS rfl (ef_bsliceA ty25 ty5 rfl rfl oQ (by decide) rfl rfl) ?_
    rintro v_1_3 _ _ a w ⟨rfl, rfl⟩ hF hS
    refine ⟨⟨iQ, iQ, trivial⟩, ?_⟩
    refine tQ 4 rfl hF (hS.keep sQ (zQ.k)) (q_b2s_row (xs := [_]) ty25 ty9 ty5 0 rfl rfl) fun a hF => ?_
    refine gQ 5 rfl rfl hF hS rfl (ef_qt (q_call fn143 rfl (fun w hS => add_ct _ _ (by first | assumption | rfl | (simp only [*]; done)) (by first | assumption | rfl | (simp only [*]; done)) (by first | assumption | omega | (simp; done) | (simp; omega) | (simp only [*]; omega)) w (hS.ext _ _ hg1)) (fun _ _ _ h => h))) ?_
    rintro _ _ _ a w ⟨rfl, rfl, rfl⟩ hF hS
    refine ⟨⟨iQ, iQ, iQ, trivial⟩, ?_⟩
    refine gQ 7 rfl rfl hF hS rfl (ef_storeW ty223 1 rfl rfl rfl rfl bQ oQ bQ) ?_
    rintro _ _ _ a w ⟨rfl, rfl, rfl⟩ hF hS
    (try dsimp only [segs] at hS)
    replace hS := nl0_3 hS
    refine ⟨⟨iQ, iQ, iQ, trivial⟩, ?_⟩
    exact goW_done kQ (j2_mk v_1_3 b_1_6 (trivial) (hF.sub (L' := [(1, _), (4, _), (5, _)]) ⟨rfl, rfl, rfl, trivial⟩) (hS.perm (.swap _ _ _)))
   ·refine stepW_ef _ rfl rfl hF hS rfl (ef_bsliceA ty25 ty5 rfl rfl oQ (by decide) rfl rfl) ?_
    rintro v_1_3 _ _ a w ⟨rfl, rfl⟩ hF hS
    refine ⟨⟨iQ, iQ, trivial⟩, ?_⟩
    refine tQ 4 rfl hF (hS.keep sQ (zQ.k)) (q_b2s_row (xs := [_]) ty25 ty9 ty5 0 rfl rfl) fun a hF => ?_
    refine gQ 0 rfl rfl hF hS rfl (ef_qt (q_call fn142 rfl (fun w hS => begin_ct w ) (fun _ _ _ h => h))) ?_
    rintro _ _ _ a w ⟨rfl, rfl, rfl⟩ hF hS
    refine ⟨⟨.inr (hS.k1 (zQ.k)), iQ, iQ, trivial⟩, ?_⟩
    refine gQ 5 rfl rfl hF hS rfl (ef_qt (q_call fn143 rfl (fun w hS => add_ct _ _ (by first | assumption | rfl | (simp only [*]; done)) (by first | assumption | rfl | (simp only [*]; done)) (by first | assumption | omega | (simp; done) | (simp; omega) | (simp only [*]; omega)) w (hS.ext _ _ hg1)) (fun _ _ _ h => h))) ?_
    rintro _ _ _ a w ⟨rfl, rfl, rfl⟩ hF hS
    refine ⟨⟨iQ, iQ, iQ, trivial⟩, ?_⟩
    refine gQ 7 rfl rfl hF hS rfl (ef_storeW ty223 1 rfl rfl rfl rfl bQ oQ bQ) ?_
    rintro _ _ _ a w ⟨rfl, rfl, rfl⟩ hF hS
    (try dsimp only [segs] at hS)
    replace hS := nl0_3 hS
    refine ⟨⟨iQ, iQ, iQ, trivial⟩, ?_⟩
    exact goW_done kQ (j2_mk v_1_3 b_1_6 (trivial) (hF.sub (L' := [(1, _), (4, _), (5, _)]) ⟨rfl, rfl, rfl, trivial⟩) (hS.perm (.swap _ _ _)))
 rintro a w ⟨v_1_3, b_1_6, -, hF, hS⟩
 (try dsimp only at hF hS)
 refine hK2 _ _ ?_
 refine k0 ?_; intro K3 hK3
 refine regS hF hS (mQ rfl <| q0 (q_len_sl ty40 hb rfl) <| mQ rfl <| sq_end) fun a w hF hS => ?_
 refine wp_block ?_
 obtain ⟨hs0, hhs0, hS⟩ := hS.oh
 refine wp_loopx (γ := Int) (0) (fun (i : Int) => [(17, vi i)]) [(4, _), (5, _), (15, _), (16, _)] (fun (i : Int) => (hs0.set 0 (.blk b_1_6 223 (stmC (Sha.ofS tag (ps.take i.toNat)))))) (fun (i : Int) => 0 ≤ i ∧ i ≤ ps.length) (fun (i : Int) => (ps.length - i).toNat) (hF.sub ⟨rfl, rfl, rfl, rfl, rfl, trivial⟩) (by subst hhs0; rw [← Sha.ofS_0] at hS; exact hS) (by exact ⟨Int.le_refl _, by omega⟩) ?_
 rintro i a w hfact hF hS
 subst hhs0; (try dsimp only at hfact hF hS)
 obtain ⟨hi0, hi1⟩ := hfact
 replace hS := nl0_3 hS
 obtain ⟨hB1, hB2⟩ := Sha.ofS_ok tag (ps.take i.toNat)
 refine regS hF hS (q0 (q_lti rfl rfl) <| sq_end) fun a w hF hS => ?_
 refine k0 ?_; intro K6 hK6
 refine wp_ifd hF rfl (fun hc1 => ?_) (fun hc1 => ?_)
 ·refine wp_skip ?_
  refine hK6 _ _ ?_
  refine k0 ?_; intro K7 hK7
  refine wp_block ?_
  refine k0 ?_; intro K8 hK8
  refine reg hF hS (q0 (q_idx_sl ty40 ty9 hb rfl rfl (by omega)) <| q0 (q_ld_S ty9 hb zin0 rfl rfl (by omega)) <| aQ rfl <| sq_end) fun a w hF hS => ?_
  have hpi := hp _ (Sha.getD_mem ps i.toNat (by omega))
  have hbl := Wi.bytes_len (ps.getD i.toNat [])
  obtain ⟨hD1, hD2⟩ := Sha.adds_len _ hB1 hB2 (Wi.bytes (ps.getD i.toNat []))
  have hlen : (stmC (Sha.adds (Sha.ofS tag (ps.take i.toNat)) (Wi.bytes (ps.getD i.toNat [])))).length = 73 := by rw [stmC_len]; omega
  refine hK8 _ _ ?_
  revert hS; revert hF; apply regJ (J := J1 (α0 := Value) 32 _ _ _ _ _) #[false, false, false, false, false, false] 6 mixed rfl rfl
  ·intro w hF hS
   refine tQ 0 rfl hF (hS.keep sQ (zQ.k)) (q_ld_blkW ty223 0 rfl rfl bQ rfl) fun a hF => ?_
   refine tQ 1 rfl hF (hS.keep sQ zQ) (q_move rfl) fun a hF => ?_
   refine gQ 2 rfl rfl hF hS rfl (ef_call fn58 rfl (fun w hS => wbytes_ct _ (by first | assumption | omega) w )) ?_
   rintro v_5_2 _ _ a w ⟨_, _, rfl, rfl, rfl, rfl⟩ hF hS
   refine ⟨⟨iQ, .inr (hS.k1 (zQ.k.n)), trivial⟩, ?_⟩
   refine tQ 3 rfl hF (hS.keep sQ (zQ.k)) (q_b2s_row ty25 ty9 ty5 0 rfl rfl) fun a hF => ?_
   refine gQ 4 rfl rfl hF hS rfl (ef_qt (q_call fn143 rfl (fun w hS => add_ct _ _ (by first | assumption | rfl | (simp only [*]; done)) (by first | assumption | rfl | (simp only [*]; done)) (by first | assumption | omega | (simp; done) | (simp; omega) | (simp only [*]; omega)) w (hS.ext _ _ hg1)) (fun _ _ _ h => h))) ?_
   rintro _ _ _ a w ⟨rfl, rfl, rfl⟩ hF hS
   refine ⟨⟨iQ, iQ, iQ, trivial⟩, ?_⟩
   refine gQ 5 rfl rfl hF hS rfl (ef_storeW ty223 1 rfl rfl rfl rfl bQ oQ bQ) ?_
   rintro _ _ _ a w ⟨rfl, rfl, rfl⟩ hF hS
   (try dsimp only [segs] at hS)
   replace hS := nl0_4 hS
   refine ⟨⟨iQ, iQ, iQ, trivial⟩, ?_⟩
   exact goW_done kQ (j1_mk v_5_2 (trivial) (hF.sub (L' := [(4, _), (5, _), (15, _), (16, _), (17, _)]) ⟨rfl, rfl, rfl, rfl, rfl, trivial⟩) hS)
  rintro a w ⟨v_5_2, -, hF, hS⟩
  (try dsimp only at hF hS)
  refine hK7 _ _ ?_
  refine reg hF hS (pQ rfl rfl <| mQ rfl <| sq_end) fun a w hF hS => ?_
  replace hS := hS.keep zQ (sQ.n)
  refine ⟨(i + 1), ?_, ?_, hF.sub ⟨rfl, rfl, rfl, rfl, rfl, trivial⟩, ?_⟩
  ·(try dsimp only); omega
  ·(try dsimp only); omega
  ·rw [Sha.ofS_step' _ _ _ (by omega), show i.toNat + 1 = (i + 1).toNat by omega] at hS
   exact hS
 ·obtain rfl : i = ps.length := by omega
  rw [Int.toNat_natCast, List.take_length] at hS
  obtain ⟨hC1, hC2⟩ := Sha.ofS_ok tag ps
  have hC3 := Sha.ofS_n tag ps hp hl
  have hC4 := Sha.fin_len (Sha.ofS tag ps)
  refine wp_exit ?_
  refine hK3 _ _ ?_
  refine reglS fun K9 hK9 => ?_
  refine lQ hF hS (q0 (q_ld_blkW ty223 0 rfl rfl bQ rfl) <| q0 (q_call fn144 rfl (fun w hS => ssum_ct _ (by first | assumption | (simp [*]; done)) (by first | assumption | (simp [*]; done)) (by first | assumption | omega) w (hS.ext _ _ hg1)) (fun _ _ _ h => h)) <| sq_end) fun a w hF hS => ?_
  refine eQ hF hS rfl (ef_allocA ty182) ?_
  rintro _ _ _ a w ⟨b2, rfl, rfl, rfl⟩ hF hS
  rw [show List.replicate 32 (Value.int .u8 0) = (List.replicate 32 (0 : UInt8)).map vb from by rw [List.map_replicate] <;> rfl] at hS
  refine eQ hF hS rfl (ef_storeW ty182 0 rfl rfl rfl rfl bQ oQ bQ) ?_
  rintro _ _ _ a w ⟨rfl, rfl, rfl⟩ hF hS
  replace hS := nl0_4 hS
  refine wpList_nil (hK9 _ _ ?_)
  refine reglS fun K10 hK10 => ?_
  refine lQ hF hS (q0 (q_sla_hi ty182 ty5 rfl rfl (by omega)) <| q0 (q_s2ap ty62 rfl (by omega)) <| q0 (q_ld_blkAM ty62 0 rfl rfl bQ rfl) <| sq_end) fun a w hF hS => ?_
  refine eQ hF hS rfl (ef_storeW ty62 3 rfl rfl rfl rfl bQ oQ bQ) ?_
  rintro _ _ _ a w ⟨rfl, rfl, rfl⟩ hF hS
  replace hS := nl0_4 hS
  refine wpList_nil (hK10 _ _ ?_)
  refine wp_ret ?_
  exact fn_ret (rs := [.cell 4 62]) rfl hF hS (vs := [_]) ⟨⟨_, _, _, _, _, _, _, rfl, List.mem_of_getElem? (i := 3) rfl, ty62, .inl ⟨rfl, bQ, rfl⟩⟩, trivial⟩ zQ zQ (by unfold Sha.ofD; rfl)
end
section
theorem fn157 : FnOk Tryz.prog 157 := fQ Tryz.func157
theorem rrotr_ct (x : UInt32) (n : Int) (hn : 0 < n ∧ n < 32) (w : World) : Ct Tryz.prog 157 [vw x, vi n] w (fun r _ _ => r = vw (Sha.rotr x (UInt32.ofNat n.toNat))) := by
 refine fn_enter Tryz.func157 rfl Tryz.ntmps157 (Nat.le_of_ble_eq_true rfl) fun a hF hS => ?_
 refine regS hF hS (aQ rfl <| sq_end) fun a w hF hS => ?_
 refine regdS mixed kQ hF hS (mQ rfl <| mQ rfl <| q0 (q_shrw rfl rfl (by omega)) <| mQ rfl <| mQ rfl <| dQ rfl rfl <| q0 (q_shlw rfl rfl (by omega)) <| q0 (q_orw rfl rfl) <| aQ rfl <| sq_end) fun a w hF hS => ?_
 refine wp_ret ?_
 exact fn_ret (rs := [.tmp 4]) rfl hF hS (vs := [_]) ⟨rfl, trivial⟩ zQ zQ (by rw [Sha.rotr_q x n hn])
theorem rpad_ct (v : Value) (xs : List UInt8) (hx : xs.length < 1099511627776) (w : World) (hb : Sl encB (ph w) v xs) : Ct Tryz.prog 155 [v] w (fun r zs hs => ∃ z, Sl encB z r (xs ++ Sha.pad (ofq xs.length)) ∧ zs = [z] ∧ hs = []) := by
 refine fn_enter Tryz.func155 rfl Tryz.ntmps155 (Nat.le_of_ble_eq_true rfl) fun a hF hS => ?_
 have hz := Sha.zeros_lt xs.length
 have hbe := Sha.be8_len (8 * ofq xs.length)
 refine regS hF hS (aQ rfl <| sq_end) fun a w hF hS => ?_
 refine reglS fun K2 hK2 => ?_
 refine eQ hF hS rfl (ef_bslice0 ty25 ty5) ?_
 rintro v1 _ _ a w ⟨rfl, rfl⟩ hF hS
 replace hS := nl0_1 hS
 refine lQ hF hS (mQ rfl <| sq_end) fun a w hF hS => ?_
 refine eQ hF hS rfl (ef_append ty25 ty5 0 rfl rfl rfl (src_slV ty25 hb zin0) bQ rfl (by decide)) ?_
 rintro v3 _ _ a w ⟨rfl, rfl⟩ hF hS
 replace hS := nl0_1 hS
 refine lQ hF hS (aQ rfl <| sq_end) fun a w hF hS => ?_
 refine wpList_nil (hK2 _ _ ?_)
 refine reglS fun K3 hK3 => ?_
 refine lQ hF hS (mQ rfl <| sq_end) fun a w hF hS => ?_
 refine eQ hF hS rfl (ef_bsliceA ty25 ty5 rfl rfl oQ (by decide) rfl rfl) ?_
 rintro v4 _ _ a w ⟨rfl, rfl⟩ hF hS
 replace hS := nl0_2 hS
 refine eQ hF hS rfl (ef_append ty25 ty5 1 rfl rfl rfl (src_row ty25 (k := 0) rfl oQ) bQ rfl (by decide)) ?_
 rintro v6 _ _ a w ⟨rfl, rfl⟩ hF hS
 replace hS := nl0_2 hS
 refine lQ hF hS (aQ rfl <| sq_end) fun a w hF hS => ?_
 refine wpList_nil (hK3 _ _ ?_)
 refine k0 ?_; intro K4 hK4
 refine wp_block ?_
 obtain ⟨hs0, hhs0, hS⟩ := hS.oh
 refine wp_loopx (γ := Value × Nat) (v6, 0) (fun (v', j) => [(3, v')]) [(0, _)] (fun (v', j) => (hs0.set 1 (.row v' 5 1 (xs.length + (1 + j)) ((xs ++ 128 :: List.replicate j (0 : UInt8)).map vb)))) (fun (v', j) => j ≤ Sha.zerosFor xs.length) (fun (v', j) => Sha.zerosFor xs.length - j) (hF.sub ⟨rfl, rfl, trivial⟩) (by subst hhs0; simp at hS; simp; exact hS) (by exact Nat.zero_le _) ?_
 rintro ⟨v', j⟩ a w hfact hF hS
 subst hhs0; (try dsimp only at hfact hF hS)
 have hj := hfact
 replace hS := nl0_2 hS
 refine k0 ?_; intro K5 hK5
 refine regS hF hS (mQ rfl <| q0 (q_len_row ty25 1 rfl rfl) <| q0 (q_remi rfl rfl (by omega)) <| q0 (q_nei rfl rfl) <| sq_end) fun a w hF hS => ?_
 refine wp_ifn hF rfl (fun hc1 => ?_) (fun hc1 => ?_)
 ·have hjl : j < Sha.zerosFor xs.length := by
   have := Sha.zeros_at xs.length
   rcases Nat.lt_or_ge j (Sha.zerosFor xs.length) with h | h
   ·exact h
   ·obtain rfl : j = Sha.zerosFor xs.length := by omega
    omega
  refine wp_skip ?_
  refine hK5 _ _ ?_
  refine wp_block ?_
  refine regl ?_
  refine lQ hF hS (mQ rfl <| sq_end) fun a w hF hS => ?_
  refine eQ hF hS rfl (ef_bsliceA ty25 ty5 rfl rfl oQ (by decide) rfl rfl) ?_
  rintro v7 _ _ a w ⟨rfl, rfl⟩ hF hS
  replace hS := nl0_3 hS
  refine eQ hF hS rfl (ef_append ty25 ty5 2 rfl rfl rfl (src_row ty25 (k := 0) rfl oQ) bQ rfl (by decide)) ?_
  rintro v9 _ _ a w ⟨rfl, rfl⟩ hF hS
  replace hS := nl0_3 hS
  refine lQ hF hS (aQ rfl <| sq_end) fun a w hF hS => ?_
  refine wpList_nil ?_
  replace hS := hS.keep zQ (sQ.n)
  refine ⟨(v9, j + 1), ?_, ?_, hF.sub ⟨rfl, rfl, trivial⟩, ?_⟩
  ·(try dsimp only); omega
  ·(try dsimp only); omega
  ·have e : (xs ++ 128 :: List.replicate j (0 : UInt8)).map vb ++ [Value.int .u8 0] = (xs ++ 128 :: List.replicate (j + 1) (0 : UInt8)).map vb := by rw [List.replicate_succ']; simp
   rw [e] at hS
   exact hS
 ·have hjz := Sha.zeros_un xs.length j hj (by omega)
  subst hjz
  refine wp_exit ?_
  refine hK4 _ _ ?_
  refine regS hF hS (mQ rfl <| q0 (q_len_sl ty25 hb rfl) <| q0 (q_cv_iq ty3 ty179 rfl) <| q0 (q_mulq (p := 8) rfl rfl) <| aQ rfl <| sq_end) fun a w hF hS => ?_
  refine k0 ?_; intro K8 hK8
  refine regS hF hS (aQ rfl <| sq_end) fun a w hF hS => ?_
  refine wp_block ?_
  obtain ⟨hs0, hhs0, hS⟩ := hS.oh
  refine wp_loopx (γ := Value × Int) (v', 0) (fun (v', i) => [(3, v'), (5, vi i)]) [(4, _)] (fun (v', i) => (hs0.set 1 (.row v' 5 1 (xs.length + (1 + Sha.zerosFor xs.length) + i.toNat) ((xs ++ 128 :: (List.replicate (Sha.zerosFor xs.length) (0 : UInt8) ++ (Sha.be8 (8 * ofq xs.length)).take i.toNat)).map vb)))) (fun (v', i) => 0 ≤ i ∧ i ≤ 8) (fun (v', i) => (8 - i).toNat) (hF.sub ⟨rfl, rfl, rfl, trivial⟩) (by subst hhs0; simpa using hS) (by simp) ?_
  rintro ⟨v', i⟩ a w hfact hF hS
  subst hhs0; (try dsimp only at hfact hF hS)
  obtain ⟨hi0, hi1⟩ := hfact
  replace hS := nl0_2 hS
  refine k0 ?_; intro K10 hK10
  refine regS hF hS (mQ rfl <| q0 (q_lti rfl rfl) <| sq_end) fun a w hF hS => ?_
  refine wp_ifd hF rfl (fun hc2 => ?_) (fun hc2 => ?_)
  ·refine wp_skip ?_
   refine hK10 _ _ ?_
   refine k0 ?_; intro K12 hK12
   refine wp_block ?_
   refine regl ?_
   refine lQ hF hS (mQ rfl <| mQ rfl <| mQ rfl <| q0 (q_muli rfl rfl (by omega)) <| dQ rfl rfl <| q0 (q_shrq rfl rfl (by omega)) <| q0 (q_cv_qb ty179 ty5 rfl) <| sq_end) fun a w hF hS => ?_
   refine eQ hF hS rfl (ef_bsliceA ty25 ty5 rfl rfl oQ (by decide) rfl rfl) ?_
   rintro v10 _ _ a w ⟨rfl, rfl⟩ hF hS
   replace hS := nl0_3 hS
   refine eQ hF hS rfl (ef_append ty25 ty5 2 rfl rfl rfl (src_row ty25 (k := 0) rfl oQ) bQ rfl (by decide)) ?_
   rintro v12 _ _ a w ⟨rfl, rfl⟩ hF hS
   replace hS := nl0_3 hS
   refine lQ hF hS (aQ rfl <| sq_end) fun a w hF hS => ?_
   refine wpList_nil (hK12 _ _ ?_)
   refine reg hF hS (mQ rfl <| pQ rfl rfl <| aQ rfl <| sq_end) fun a w hF hS => ?_
   replace hS := hS.keep zQ (sQ.n)
   refine ⟨(v12, i + 1), ?_, ?_, hF.sub ⟨rfl, rfl, rfl, trivial⟩, ?_⟩
   ·(try dsimp only); omega
   ·(try dsimp only); omega
   ·rw [Sha.byte_q (8 * ofq xs.length) i ⟨hi0, by omega⟩] at hS
    have e : (xs ++ 128 :: (List.replicate (Sha.zerosFor xs.length) (0 : UInt8) ++ (Sha.be8 (8 * ofq xs.length)).take i.toNat)).map vb ++ [vb (UInt8.ofNat ((8 * ofq xs.length).toNat / 2 ^ (56 - 8 * i.toNat)))] = (xs ++ 128 :: (List.replicate (Sha.zerosFor xs.length) (0 : UInt8) ++ (Sha.be8 (8 * ofq xs.length)).take (i + 1).toNat)).map vb := by rw [show (i + 1).toNat = i.toNat + 1 by omega, Sha.be8_step _ _ (by omega)]; simp
    rw [e, show xs.length + (1 + Sha.zerosFor xs.length) + i.toNat + 1 = xs.length + (1 + Sha.zerosFor xs.length) + (i + 1).toNat by omega] at hS
    exact hS
  ·obtain rfl : i = 8 := by omega
   rw [show (8 : Int).toNat = 8 from rfl, List.take_of_length_le (by omega)] at hS
   have hqn : (ofq (xs.length : Int)).toNat = xs.length := by have := ofq_toNat (xs.length : Int); omega
   have hpe : 128 :: (List.replicate (Sha.zerosFor xs.length) (0 : UInt8) ++ Sha.be8 (8 * ofq xs.length)) = Sha.pad (ofq xs.length) := by unfold Sha.pad; rw [hqn]
   rw [hpe] at hS
   refine wp_exit ?_
   refine hK8 _ _ ?_
   refine regS hF hS (mQ rfl <| aQ rfl <| sq_end) fun a w hF hS => ?_
   refine wp_ret ?_
   have hpl : (xs ++ Sha.pad (ofq xs.length)).length = xs.length + (1 + Sha.zerosFor xs.length) + 8 := by rw [← hpe]; simp [Sha.be8_len]; omega
   obtain ⟨z, hz1, hS⟩ := St.freezeB (hS.perm (.swap _ _ _)) hpl.symm (by omega)
   exact fn_ret (rs := [.tmp 2]) rfl hF hS (vs := [_]) ⟨rfl, trivial⟩ (zs' := [z]) (hs' := []) sQ zQ ⟨z, hz1, rfl, rfl⟩
theorem rwords_ct (v : Value) (bb : List UInt8) (hl : bb.length = 64) (w : World) (hb : Sl encB (ph w) v bb) : Ct Tryz.prog 156 [v] w (fun r _ _ => r = .agg ((Sha.sch bb 64).map vw).toArray) := by
 refine fn_enter Tryz.func156 rfl Tryz.ntmps156 (Nat.le_of_ble_eq_true rfl) fun a hF hS => ?_
 refine reglS fun K1 hK1 => ?_
 refine eQ hF hS rfl (ef_allocA ty239) ?_
 rintro _ _ _ a w ⟨b1, rfl, rfl, rfl⟩ hF hS
 rw [show List.replicate 64 (Value.int .u32 0) = (List.replicate 64 (0 : UInt32)).map vw from by rw [List.map_replicate] <;> rfl] at hS
 refine wpList_nil (hK1 _ _ ?_)
 refine reglS fun K2 hK2 => ?_
 refine eQ hF hS rfl (ef_allocA ty239) ?_
 rintro _ _ _ a w ⟨b2, rfl, rfl, rfl⟩ hF hS
 rw [show List.replicate 64 (Value.int .u32 0) = (List.replicate 64 (0 : UInt32)).map vw from by rw [List.map_replicate] <;> rfl] at hS
 refine wpList_nil (hK2 _ _ ?_)
 refine k0 ?_; intro K3 hK3
 refine regS hF hS (aQ rfl <| sq_end) fun a w hF hS => ?_
 refine wp_block ?_
 obtain ⟨hs0, hhs0, hS⟩ := hS.oh
 refine wp_loopx (γ := Int) (0) (fun (t : Int) => [(4, vi t)]) [(0, _), (2, _), (3, _)] (fun (t : Int) => (hs0.set 0 (.blk b2 239 ((Sha.schW bb t.toNat).map vw)))) (fun (t : Int) => 0 ≤ t ∧ t ≤ 16) (fun (t : Int) => (16 - t).toNat) (hF.sub ⟨rfl, rfl, rfl, rfl, trivial⟩) (by subst hhs0; exact hS) (by simp) ?_
 rintro t a w hfact hF hS
 subst hhs0; (try dsimp only at hfact hF hS)
 obtain ⟨ht0, ht1⟩ := hfact
 replace hS := nl0_2 hS
 have hwl := Sha.schW_len bb t.toNat (by omega)
 refine k0 ?_; intro K5 hK5
 refine regS hF hS (mQ rfl <| q0 (q_lti rfl rfl) <| sq_end) fun a w hF hS => ?_
 refine wp_ifd hF rfl (fun hc1 => ?_) (fun hc1 => ?_)
 ·refine wp_skip ?_
  refine hK5 _ _ ?_
  refine k0 ?_; intro K7 hK7
  refine wp_block ?_
  refine regt 35 mixed kQ hF hS (mQ rfl <| mQ rfl <| mQ rfl <| q0 (q_muli rfl rfl (by omega)) <| q0 (q_idx_sl ty25 ty5 hb rfl rfl (by omega)) <| q0 (q_ld_B ty5 hb zin0 rfl rfl (by omega)) <| q0 (q_cv_bw ty5 ty220 rfl) <| q0 (q_shlw rfl rfl (by omega)) <| mQ rfl <| mQ rfl <| q0 (q_muli rfl rfl (by omega)) <| pQ rfl rfl <| q0 (q_idx_sl ty25 ty5 hb rfl rfl (by omega)) <| q0 (q_ld_B ty5 hb zin0 rfl rfl (by omega)) <| q0 (q_cv_bw ty5 ty220 rfl) <| q0 (q_shlw rfl rfl (by omega)) <| q0 (q_orw rfl rfl) <| mQ rfl <| mQ rfl <| q0 (q_muli rfl rfl (by omega)) <| pQ rfl rfl <| q0 (q_idx_sl ty25 ty5 hb rfl rfl (by omega)) <| q0 (q_ld_B ty5 hb zin0 rfl rfl (by omega)) <| q0 (q_cv_bw ty5 ty220 rfl) <| q0 (q_shlw rfl rfl (by omega)) <| q0 (q_orw rfl rfl) <| mQ rfl <| mQ rfl <| q0 (q_muli rfl rfl (by omega)) <| pQ rfl rfl <| q0 (q_idx_sl ty25 ty5 hb rfl rfl (by omega)) <| q0 (q_ld_B ty5 hb zin0 rfl rfl (by omega)) <| q0 (q_cv_bw ty5 ty220 rfl) <| q0 (q_orw rfl rfl) <| q0 (q_idx_arr0 ty239 ty220 rfl rfl (by omega)) <| sq_end) fun a w hF hS => ?_
  refine eQ hF hS rfl (ef_st_blkM ty220 0 rfl rfl rfl bQ rfl) ?_
  rintro _ _ _ a w ⟨rfl, rfl, rfl⟩ hF hS
  replace hS := nl0_2 hS
  refine wpList_nil (hK7 _ _ ?_)
  refine reg hF hS (mQ rfl <| pQ rfl rfl <| aQ rfl <| sq_end) fun a w hF hS => ?_
  refine ⟨(t + 1), ?_, ?_, hF.sub ⟨rfl, rfl, rfl, rfl, trivial⟩, ?_⟩
  ·(try dsimp only); omega
  ·(try dsimp only); omega
  ·rw [Sha.word_step bb t (by omega) (by omega)] at hS
   exact hS
 ·obtain rfl : t = 16 := by omega
  clear hwl
  refine wp_exit ?_
  refine hK3 _ _ ?_
  refine k0 ?_; intro K8 hK8
  refine regS hF hS (aQ rfl <| sq_end) fun a w hF hS => ?_
  refine wp_block ?_
  obtain ⟨hs0, hhs0, hS⟩ := hS.oh
  refine wp_loopx (γ := Int) (16) (fun (t : Int) => [(5, vi t)]) [(2, _), (3, _)] (fun (t : Int) => (hs0.set 0 (.blk b2 239 ((Sha.schW bb t.toNat).map vw)))) (fun (t : Int) => 16 ≤ t ∧ t ≤ 64) (fun (t : Int) => (64 - t).toNat) (hF.sub ⟨rfl, rfl, rfl, trivial⟩) (by subst hhs0; exact hS) (by simp) ?_
  rintro t a w hfact hF hS
  subst hhs0; (try dsimp only at hfact hF hS)
  obtain ⟨ht0, ht1⟩ := hfact
  replace hS := nl0_2 hS
  have hwl := Sha.schW_len bb t.toNat (by omega)
  refine k0 ?_; intro K10 hK10
  refine regS hF hS (mQ rfl <| q0 (q_lti rfl rfl) <| sq_end) fun a w hF hS => ?_
  refine wp_ifd hF rfl (fun hc2 => ?_) (fun hc2 => ?_)
  ·refine wp_skip ?_
   refine hK10 _ _ ?_
   refine k0 ?_; intro K12 hK12
   refine wp_block ?_
   refine regdS mixed kQ hF hS (mQ rfl <| dQ rfl rfl <| q0 (q_idx_arr0 ty239 ty220 rfl rfl (by omega)) <| q0 (q_ld_blkM ty220 0 0 rfl rfl bQ rfl) <| q0 (q_call fn157 rfl (fun w hS => rrotr_ct _ _ (by omega) w ) (fun _ _ _ h => h)) <| mQ rfl <| dQ rfl rfl <| q0 (q_idx_arr0 ty239 ty220 rfl rfl (by omega)) <| q0 (q_ld_blkM ty220 0 0 rfl rfl bQ rfl) <| q0 (q_call fn157 rfl (fun w hS => rrotr_ct _ _ (by omega) w ) (fun _ _ _ h => h)) <| q0 (q_xorw rfl rfl) <| mQ rfl <| dQ rfl rfl <| q0 (q_idx_arr0 ty239 ty220 rfl rfl (by omega)) <| q0 (q_ld_blkM ty220 0 0 rfl rfl bQ rfl) <| q0 (q_shrw rfl rfl (by omega)) <| q0 (q_xorw rfl rfl) <| aQ rfl <| sq_end) fun a w hF hS => ?_
   refine regdS mixed kQ hF hS (mQ rfl <| dQ rfl rfl <| q0 (q_idx_arr0 ty239 ty220 rfl rfl (by omega)) <| q0 (q_ld_blkM ty220 0 0 rfl rfl bQ rfl) <| q0 (q_call fn157 rfl (fun w hS => rrotr_ct _ _ (by omega) w ) (fun _ _ _ h => h)) <| mQ rfl <| dQ rfl rfl <| q0 (q_idx_arr0 ty239 ty220 rfl rfl (by omega)) <| q0 (q_ld_blkM ty220 0 0 rfl rfl bQ rfl) <| q0 (q_call fn157 rfl (fun w hS => rrotr_ct _ _ (by omega) w ) (fun _ _ _ h => h)) <| q0 (q_xorw rfl rfl) <| mQ rfl <| dQ rfl rfl <| q0 (q_idx_arr0 ty239 ty220 rfl rfl (by omega)) <| q0 (q_ld_blkM ty220 0 0 rfl rfl bQ rfl) <| q0 (q_shrw rfl rfl (by omega)) <| q0 (q_xorw rfl rfl) <| aQ rfl <| sq_end) fun a w hF hS => ?_
   refine regt 15 mixed kQ hF hS (mQ rfl <| mQ rfl <| dQ rfl rfl <| q0 (q_idx_arr0 ty239 ty220 rfl rfl (by omega)) <| q0 (q_ld_blkM ty220 0 0 rfl rfl bQ rfl) <| mQ rfl <| q0 (q_addw rfl rfl) <| mQ rfl <| dQ rfl rfl <| q0 (q_idx_arr0 ty239 ty220 rfl rfl (by omega)) <| q0 (q_ld_blkM ty220 0 0 rfl rfl bQ rfl) <| q0 (q_addw rfl rfl) <| mQ rfl <| q0 (q_addw rfl rfl) <| q0 (q_idx_arr0 ty239 ty220 rfl rfl (by omega)) <| sq_end) fun a w hF hS => ?_
   refine eQ hF hS rfl (ef_st_blkM ty220 0 rfl rfl rfl bQ rfl) ?_
   rintro _ _ _ a w ⟨rfl, rfl, rfl⟩ hF hS
   replace hS := nl0_2 hS
   refine wpList_nil (hK12 _ _ ?_)
   refine reg hF hS (mQ rfl <| pQ rfl rfl <| aQ rfl <| sq_end) fun a w hF hS => ?_
   refine ⟨(t + 1), ?_, ?_, hF.sub ⟨rfl, rfl, rfl, trivial⟩, ?_⟩
   ·(try dsimp only); omega
   ·(try dsimp only); omega
   ·rw [Sha.ref_step bb t (by omega) (by omega)] at hS
    exact hS
  ·obtain rfl : t = 64 := by omega
   rw [show (64 : Int).toNat = 64 from rfl] at hwl
   rw [show (64 : Int).toNat = 64 from rfl, Sha.schW_64] at hS
   have hsl := Sha.sch_len bb 64
   refine wp_exit ?_
   refine hK8 _ _ ?_
   refine reglS fun K15 hK15 => ?_
   refine lQ hF hS (q0 (q_ld_blkW ty239 0 rfl rfl bQ rfl) <| sq_end) fun a w hF hS => ?_
   refine eQ hF hS rfl (ef_storeW ty239 1 rfl rfl rfl rfl bQ oQ bQ) ?_
   rintro _ _ _ a w ⟨rfl, rfl, rfl⟩ hF hS
   replace hS := nl0_2 hS
   refine wpList_nil (hK15 _ _ ?_)
   refine wp_ret ?_
   exact fn_ret (rs := [.cell 2 239]) rfl hF hS (vs := [_]) ⟨⟨_, _, _, _, _, _, _, rfl, List.mem_of_getElem? (i := 1) rfl, ty239, .inl ⟨rfl, bQ, rfl⟩⟩, trivial⟩ zQ zQ (rfl)
end
section
theorem fn155 : FnOk Tryz.prog 155 := fQ Tryz.func155
theorem fn156 : FnOk Tryz.prog 156 := fQ Tryz.func156
theorem rsum_ct (v : Value) (xs : List UInt8) (hx : xs.length < 1099511627776) (w : World) (hb : Sl encB (ph w) v xs) {fz0 : Nat × Nat} {bt0 : TypeId} (hg0 : w.heap[0]? = some (.cells (Sha.kc.map vw).toArray bt0 fz0)) : Ct Tryz.prog 123 [v] w (fun r _ _ => r = .agg ((Sha.sum xs).map vb).toArray) := by
 refine fn_enter Tryz.func123 rfl Tryz.ntmps123 (Nat.le_of_ble_eq_true rfl) fun a hF hS => ?_
 have hsla : ∀ b, (Sha.sch b 64).length = 64 := fun b => Sha.sch_len b 64
 have hkl : Sha.kc.length = 64 := rfl
 have hmp := Sha.mod_pad xs (by omega)
 have hpa := Sha.pad_at xs.length (by omega)
 have hzz := Sha.zeros_lt xs.length
 have hml : (xs ++ Sha.pad (ofq xs.length)).length = xs.length + (1 + Sha.zerosFor xs.length + 8) := by rw [List.length_append, hpa]
 obtain ⟨q, hq⟩ : ∃ q, (xs ++ Sha.pad (ofq xs.length)).length = 64 * q := ⟨(xs ++ Sha.pad (ofq xs.length)).length / 64, by omega⟩
 refine reglS fun K1 hK1 => ?_
 refine eQ hF hS rfl (ef_allocA ty182) ?_
 rintro _ _ _ a w ⟨b1, rfl, rfl, rfl⟩ hF hS
 rw [show List.replicate 32 (Value.int .u8 0) = (List.replicate 32 (0 : UInt8)).map vb from by rw [List.map_replicate] <;> rfl] at hS
 refine wpList_nil (hK1 _ _ ?_)
 refine reglS fun K2 hK2 => ?_
 refine lQ hF hS (q0 (q_buildA1 ty221 ty220 rfl rfl oQ rfl rfl) <| sq_end) fun a w hF hS => ?_
 refine eQ hF hS rfl (ef_allocA ty221) ?_
 rintro _ _ _ a w ⟨b2, rfl, rfl, rfl⟩ hF hS
 refine eQ hF hS rfl (ef_storeW ty221 0 rfl rfl rfl rfl bQ oQ bQ) ?_
 rintro _ _ _ a w ⟨rfl, rfl, rfl⟩ hF hS
 replace hS := nl0_2 hS
 refine wpList_nil (hK2 _ _ ?_)
 refine reglS fun K3 hK3 => ?_
 refine lQ hF hS (mQ rfl <| sq_end) fun a w hF hS => ?_
 refine eQ hF hS rfl (ef_call fn155 rfl (fun w hS => rpad_ct _ _ (by first | assumption | omega) w (Sl.mono (hS.le zin0) hb))) ?_
 rintro v3 _ _ a w ⟨_, _, rfl, rfl, ⟨z4, hz5, rfl, rfl⟩⟩ hF hS
 replace hS : St _ [_] [_, _] _ := hS
 refine lQ hF hS (aQ rfl <| sq_end) fun a w hF hS => ?_
 refine wpList_nil (hK3 _ _ ?_)
 refine k0 ?_; intro K4 hK4
 refine regS hF hS (aQ rfl <| sq_end) fun a w hF hS => ?_
 refine wp_block ?_
 obtain ⟨hs0, hhs0, hS⟩ := hS.oh
 refine wp_loopx (γ := Nat) (0) (fun (i : Nat) => [(5, vi (64 * (i : Int)))]) [(2, _), (3, _), (4, _)] (fun (i : Nat) => (hs0.set 0 (.blk b2 221 ((Sha.refS (xs ++ Sha.pad (ofq xs.length)) i).map vw)))) (fun (i : Nat) => i ≤ q) (fun (i : Nat) => q - i) (hF.sub ⟨rfl, rfl, rfl, rfl, trivial⟩) (by subst hhs0; exact hS) (by exact Nat.zero_le _) ?_
 rintro i a w hfact hF hS
 subst hhs0; (try dsimp only at hfact hF hS)
 have hiq := hfact
 replace hS : St _ [_] [_, _] _ := hS
 have hrl := Sha.refS_len (xs ++ Sha.pad (ofq xs.length)) i
 obtain ⟨a0, a1, a2, a3, a4, a5, a6, a7, hr8⟩ := Sha.list8 hrl
 rw [hr8] at hS
 refine k0 ?_; intro K6 hK6
 refine regS hF hS (mQ rfl <| mQ rfl <| q0 (q_len_sl ty25 hz5 rfl) <| q0 (q_lti rfl rfl) <| sq_end) fun a w hF hS => ?_
 refine wp_ifd hF rfl (fun hc1 => ?_) (fun hc1 => ?_)
 ·refine wp_skip ?_
  refine hK6 _ _ ?_
  refine k0 ?_; intro K8 hK8
  refine wp_block ?_
  refine reglS fun K9 hK9 => ?_
  refine lQ hF hS (mQ rfl <| mQ rfl <| mQ rfl <| pQ rfl rfl <| q0 (q_slsl_lo_hi ty25 ty5 hz5 rfl rfl rfl (by omega)) <| q0 (q_call fn156 rfl (fun w hS => rwords_ct _ _ (by rw [List.length_drop, List.length_take]; omega) w (Sl.mono (hS.le (.inr (by simp))) (Sl.cut hz5 (by omega)))) (fun _ _ _ h => h)) <| sq_end) fun a w hF hS => ?_
  refine eQ hF hS rfl (ef_allocA ty239) ?_
  rintro _ _ _ a w ⟨b6, rfl, rfl, rfl⟩ hF hS
  rw [show List.replicate 64 (Value.int .u32 0) = (List.replicate 64 (0 : UInt32)).map vw from by rw [List.map_replicate] <;> rfl] at hS
  refine eQ hF hS rfl (ef_storeW ty239 0 rfl rfl rfl rfl bQ oQ bQ) ?_
  rintro _ _ _ a w ⟨rfl, rfl, rfl⟩ hF hS
  replace hS : St _ [_] [_, _, _] _ := hS
  refine wpList_nil ?_
  rw [show (64 * (i : Int)).toNat = 64 * i by omega, show (64 * (i : Int) + 64).toNat = 64 * i + 64 by omega, show List.drop (64 * i) (List.take (64 * i + 64) (xs ++ Sha.pad (ofq xs.length))) = Sha.blkAt (xs ++ Sha.pad (ofq xs.length)) i from rfl] at hS
  have hsl := Sha.sch_len (Sha.blkAt (xs ++ Sha.pad (ofq xs.length)) i) 64
  refine hK9 _ _ ?_
  refine regdS mixed kQ hF hS (q0 (q_idx_arr ty221 ty220 rfl rfl (by omega)) <| q0 (q_ld_blk1 ty220 1 rfl rfl rfl rfl) <| q0 (q_idx_arr ty221 ty220 rfl rfl (by omega)) <| q0 (q_ld_blk1 ty220 1 rfl rfl rfl rfl) <| q0 (q_idx_arr ty221 ty220 rfl rfl (by omega)) <| q0 (q_ld_blk1 ty220 1 rfl rfl rfl rfl) <| q0 (q_idx_arr ty221 ty220 rfl rfl (by omega)) <| q0 (q_ld_blk1 ty220 1 rfl rfl rfl rfl) <| q0 (q_idx_arr ty221 ty220 rfl rfl (by omega)) <| q0 (q_ld_blk1 ty220 1 rfl rfl rfl rfl) <| q0 (q_idx_arr ty221 ty220 rfl rfl (by omega)) <| q0 (q_ld_blk1 ty220 1 rfl rfl rfl rfl) <| q0 (q_idx_arr ty221 ty220 rfl rfl (by omega)) <| q0 (q_ld_blk1 ty220 1 rfl rfl rfl rfl) <| q0 (q_idx_arr ty221 ty220 rfl rfl (by omega)) <| q0 (q_ld_blk1 ty220 1 rfl rfl rfl rfl) <| aQ rfl <| aQ rfl <| aQ rfl <| aQ rfl <| aQ rfl <| aQ rfl <| aQ rfl <| aQ rfl <| sq_end) fun a w hF hS => ?_
  refine k0 ?_; intro K11 hK11
  refine regS hF hS (aQ rfl <| sq_end) fun a w hF hS => ?_
  refine wp_block ?_
  obtain ⟨hs0, hhs0, hS⟩ := hS.oh
  refine wp_loopx (γ := UInt32 × UInt32 × UInt32 × UInt32 × UInt32 × UInt32 × UInt32 × UInt32 × Int) (a0, a1, a2, a3, a4, a5, a6, a7, 0) (fun (a', b', c', d', e', f', g', k', t) => [(7, vw a'), (8, vw b'), (9, vw c'), (10, vw d'), (11, vw e'), (12, vw f'), (13, vw g'), (14, vw k'), (15, vi t)]) [(2, _), (3, _), (4, _), (5, _), (6, _)] (fun (a', b', c', d', e', f', g', k', t) => hs0) (fun (a', b', c', d', e', f', g', k', t) => 0 ≤ t ∧ t ≤ 64 ∧ Sha.rounds (Sha.sch (Sha.blkAt (xs ++ Sha.pad (ofq xs.length)) i) 64) (a0, a1, a2, a3, a4, a5, a6, a7) t.toNat = (a', b', c', d', e', f', g', k')) (fun (a', b', c', d', e', f', g', k', t) => (64 - t).toNat) (hF.sub ⟨rfl, rfl, rfl, rfl, rfl, rfl, rfl, rfl, rfl, rfl, rfl, rfl, rfl, rfl, trivial⟩) (by subst hhs0; exact hS) (by exact ⟨Int.le_refl _, by omega, rfl⟩) ?_
  rintro ⟨a', b', c', d', e', f', g', k', t⟩ a w hfact hF hS
  subst hhs0; (try dsimp only at hfact hF hS)
  obtain ⟨ht0, ht1, hR⟩ := hfact
  replace hS : St _ [_] [_, _, _] _ := hS
  refine k0 ?_; intro K13 hK13
  refine regS hF hS (mQ rfl <| q0 (q_lti rfl rfl) <| sq_end) fun a w hF hS => ?_
  refine wp_ifd hF rfl (fun hc2 => ?_) (fun hc2 => ?_)
  ·refine wp_skip ?_
   refine hK13 _ _ ?_
   refine k0 ?_; intro K15 hK15
   refine wp_block ?_
   refine regdS mixed kQ hF hS (mQ rfl <| mQ rfl <| q0 (q_call fn157 rfl (fun w hS => rrotr_ct _ _ (by omega) w ) (fun _ _ _ h => h)) <| mQ rfl <| q0 (q_call fn157 rfl (fun w hS => rrotr_ct _ _ (by omega) w ) (fun _ _ _ h => h)) <| q0 (q_xorw rfl rfl) <| mQ rfl <| q0 (q_call fn157 rfl (fun w hS => rrotr_ct _ _ (by omega) w ) (fun _ _ _ h => h)) <| q0 (q_xorw rfl rfl) <| q0 (q_addw rfl rfl) <| mQ rfl <| mQ rfl <| q0 (q_andw rfl rfl) <| mQ rfl <| q0 (q_xorw (q := 4294967295) rfl rfl) <| mQ rfl <| q0 (q_andw rfl rfl) <| q0 (q_xorw rfl rfl) <| q0 (q_addw rfl rfl) <| mQ rfl <| q0 (q_idx_arr0 ty239 ty220 rfl rfl (by omega)) <| q0 (q_ld_old1M ty220 0 rfl hg0 bQ rfl) <| q0 (q_addw rfl rfl) <| mQ rfl <| q0 (q_idx_arr0 ty239 ty220 rfl rfl (by omega)) <| q0 (q_ld_blkM ty220 0 0 rfl rfl bQ rfl) <| q0 (q_addw rfl rfl) <| aQ rfl <| sq_end) fun a w hF hS => ?_
   refine regS hF hS (mQ rfl <| q0 (q_call fn157 rfl (fun w hS => rrotr_ct _ _ (by omega) w ) (fun _ _ _ h => h)) <| mQ rfl <| q0 (q_call fn157 rfl (fun w hS => rrotr_ct _ _ (by omega) w ) (fun _ _ _ h => h)) <| q0 (q_xorw rfl rfl) <| mQ rfl <| q0 (q_call fn157 rfl (fun w hS => rrotr_ct _ _ (by omega) w ) (fun _ _ _ h => h)) <| q0 (q_xorw rfl rfl) <| mQ rfl <| mQ rfl <| q0 (q_andw rfl rfl) <| mQ rfl <| mQ rfl <| q0 (q_andw rfl rfl) <| q0 (q_xorw rfl rfl) <| mQ rfl <| mQ rfl <| q0 (q_andw rfl rfl) <| q0 (q_xorw rfl rfl) <| q0 (q_addw rfl rfl) <| aQ rfl <| sq_end) fun a w hF hS => ?_
   refine regS hF hS (mQ rfl <| aQ rfl <| sq_end) fun a w hF hS => ?_
   refine regS hF hS (mQ rfl <| aQ rfl <| sq_end) fun a w hF hS => ?_
   refine regS hF hS (mQ rfl <| aQ rfl <| sq_end) fun a w hF hS => ?_
   refine regS hF hS (mQ rfl <| mQ rfl <| q0 (q_addw rfl rfl) <| aQ rfl <| sq_end) fun a w hF hS => ?_
   refine regS hF hS (mQ rfl <| aQ rfl <| sq_end) fun a w hF hS => ?_
   refine regS hF hS (mQ rfl <| aQ rfl <| sq_end) fun a w hF hS => ?_
   refine regS hF hS (mQ rfl <| aQ rfl <| sq_end) fun a w hF hS => ?_
   refine reg hF hS (mQ rfl <| mQ rfl <| q0 (q_addw rfl rfl) <| aQ rfl <| sq_end) fun a w hF hS => ?_
   refine hK15 _ _ ?_
   refine reg hF hS (mQ rfl <| pQ rfl rfl <| aQ rfl <| sq_end) fun a w hF hS => ?_
   simp only [Sha.xor_ff] at hF
   refine ⟨(_, _, _, _, _, _, _, _, t + 1), ?_, ?_, hF.sub ⟨rfl, rfl, rfl, rfl, rfl, rfl, rfl, rfl, rfl, rfl, rfl, rfl, rfl, rfl, trivial⟩, ?_⟩
   ·(try dsimp only); omega
   ·refine ⟨by omega, by omega, ?_⟩
    rw [Sha.rounds_succ _ _ t ht0, hR]
    rfl
   ·exact hS
  ·obtain rfl : t = 64 := by omega
   rw [show (64 : Int).toNat = 64 from rfl] at hR
   refine wp_exit ?_
   refine hK11 _ _ ?_
   refine regl ?_
   refine lQ hF hS (q0 (q_idx_arr ty221 ty220 rfl rfl (by omega)) <| q0 (q_ld_blk1 ty220 1 rfl rfl rfl rfl) <| mQ rfl <| q0 (q_addw rfl rfl) <| q0 (q_idx_arr ty221 ty220 rfl rfl (by omega)) <| q0 (q_ld_blk1 ty220 1 rfl rfl rfl rfl) <| mQ rfl <| q0 (q_addw rfl rfl) <| q0 (q_idx_arr ty221 ty220 rfl rfl (by omega)) <| q0 (q_ld_blk1 ty220 1 rfl rfl rfl rfl) <| mQ rfl <| q0 (q_addw rfl rfl) <| q0 (q_idx_arr ty221 ty220 rfl rfl (by omega)) <| q0 (q_ld_blk1 ty220 1 rfl rfl rfl rfl) <| mQ rfl <| q0 (q_addw rfl rfl) <| q0 (q_idx_arr ty221 ty220 rfl rfl (by omega)) <| q0 (q_ld_blk1 ty220 1 rfl rfl rfl rfl) <| mQ rfl <| q0 (q_addw rfl rfl) <| q0 (q_idx_arr ty221 ty220 rfl rfl (by omega)) <| q0 (q_ld_blk1 ty220 1 rfl rfl rfl rfl) <| mQ rfl <| q0 (q_addw rfl rfl) <| q0 (q_idx_arr ty221 ty220 rfl rfl (by omega)) <| q0 (q_ld_blk1 ty220 1 rfl rfl rfl rfl) <| mQ rfl <| q0 (q_addw rfl rfl) <| q0 (q_idx_arr ty221 ty220 rfl rfl (by omega)) <| q0 (q_ld_blk1 ty220 1 rfl rfl rfl rfl) <| mQ rfl <| q0 (q_addw rfl rfl) <| q0 (q_buildA1 ty221 ty220 rfl rfl oQ rfl rfl) <| sq_end) fun a w hF hS => ?_
   refine eQ hF hS rfl (ef_storeW ty221 1 rfl rfl rfl rfl bQ oQ bQ) ?_
   rintro _ _ _ a w ⟨rfl, rfl, rfl⟩ hF hS
   replace hS : St _ [_] [_, _, _] _ := hS
   refine wpList_nil (hK8 _ _ ?_)
   refine reg hF hS (mQ rfl <| pQ rfl rfl <| aQ rfl <| sq_end) fun a w hF hS => ?_
   rw [show (64 * (i : Int) + 64) = 64 * ((i + 1 : Nat) : Int) by omega] at hF
   replace hS := hS.keep sQ (sQ.n)
   refine ⟨(i + 1), ?_, ?_, hF.sub ⟨rfl, rfl, rfl, rfl, trivial⟩, ?_⟩
   ·(try dsimp only); omega
   ·(try dsimp only); omega
   ·have e : Sha.refS (xs ++ Sha.pad (ofq xs.length)) (i + 1) = [a0 + a', a1 + b', a2 + c', a3 + d', a4 + e', a5 + f', a6 + g', a7 + k'] := by
     show Sha.comp (Sha.refS (xs ++ Sha.pad (ofq xs.length)) i) (Sha.blkAt (xs ++ Sha.pad (ofq xs.length)) i) = _
     rw [hr8]
     show List.zipWith (· + ·) [a0, a1, a2, a3, a4, a5, a6, a7] (Sha.l8 (Sha.rounds (Sha.sch (Sha.blkAt (xs ++ Sha.pad (ofq xs.length)) i) 64) (a0, a1, a2, a3, a4, a5, a6, a7) 64)) = _
     rw [hR]
     rfl
    rw [e]
    exact hS
 ·obtain rfl : i = q := by omega
  rw [← hr8] at hS
  have hsr := Sha.sum_ref xs (by omega) i hq
  refine wp_exit ?_
  refine hK4 _ _ ?_
  refine reglS fun K25 hK25 => ?_
  refine eQ hF hS rfl (ef_allocA ty182) ?_
  rintro _ _ _ a w ⟨b7, rfl, rfl, rfl⟩ hF hS
  rw [show List.replicate 32 (Value.int .u8 0) = (List.replicate 32 (0 : UInt8)).map vb from by rw [List.map_replicate] <;> rfl] at hS
  refine wpList_nil (hK25 _ _ ?_)
  refine k0 ?_; intro K26 hK26
  refine regS hF hS (aQ rfl <| sq_end) fun a w hF hS => ?_
  refine wp_block ?_
  obtain ⟨hs0, hhs0, hS⟩ := hS.oh
  refine wp_loopx (γ := Int) (0) (fun (j : Int) => [(19, vi j)]) [(2, _), (3, _), (18, _)] (fun (j : Int) => (hs0.set 0 (.blk b7 182 ((Sha.outW (Sha.refS (xs ++ Sha.pad (ofq xs.length)) i) j.toNat).map vb)))) (fun (j : Int) => 0 ≤ j ∧ j ≤ 32) (fun (j : Int) => (32 - j).toNat) (hF.sub ⟨rfl, rfl, rfl, rfl, trivial⟩) (by subst hhs0; exact hS) (by simp) ?_
  rintro j a w hfact hF hS
  subst hhs0; (try dsimp only at hfact hF hS)
  obtain ⟨hj0, hj1⟩ := hfact
  replace hS : St _ [_] [_, _, _] _ := hS
  have hol := Sha.outW_len (Sha.refS (xs ++ Sha.pad (ofq xs.length)) i) j.toNat
  have hrq := Sha.refS_len (xs ++ Sha.pad (ofq xs.length)) i
  refine k0 ?_; intro K28 hK28
  refine regS hF hS (mQ rfl <| q0 (q_lti rfl rfl) <| sq_end) fun a w hF hS => ?_
  refine wp_ifd hF rfl (fun hc3 => ?_) (fun hc3 => ?_)
  ·refine wp_skip ?_
   refine hK28 _ _ ?_
   refine k0 ?_; intro K30 hK30
   refine wp_block ?_
   refine regl ?_
   refine lQ hF hS (mQ rfl <| mQ rfl <| q0 (q_quoi rfl rfl (by omega)) <| q0 (q_idx_arr0 ty221 ty220 rfl rfl (by omega)) <| q0 (q_ld_blkM ty220 1 0 rfl rfl bQ rfl) <| mQ rfl <| q0 (q_remi rfl rfl (by omega)) <| q0 (q_muli rfl rfl (by omega)) <| dQ rfl rfl <| q0 (q_shrw rfl rfl (by omega)) <| q0 (q_cv_wb ty220 ty5 rfl) <| q0 (q_idx_arr0 ty182 ty5 rfl rfl (by omega)) <| sq_end) fun a w hF hS => ?_
   refine eQ hF hS rfl (ef_st_blkM ty5 0 rfl rfl rfl bQ rfl) ?_
   rintro _ _ _ a w ⟨rfl, rfl, rfl⟩ hF hS
   replace hS : St _ [_] [_, _, _] _ := hS
   refine wpList_nil (hK30 _ _ ?_)
   refine reg hF hS (mQ rfl <| pQ rfl rfl <| aQ rfl <| sq_end) fun a w hF hS => ?_
   refine ⟨(j + 1), ?_, ?_, hF.sub ⟨rfl, rfl, rfl, rfl, trivial⟩, ?_⟩
   ·(try dsimp only); omega
   ·(try dsimp only); omega
   ·rw [Sha.byte_w _ j ⟨hj0, by omega⟩, Sha.outW_step _ _ (by omega), show j.toNat + 1 = (j + 1).toNat by omega] at hS
    exact hS
  ·obtain rfl : j = 32 := by omega
   rw [show (32 : Int).toNat = 32 from rfl, Sha.outW_32, ← hsr] at hS
   have hob := Sha.sum_len xs
   refine wp_exit ?_
   refine hK26 _ _ ?_
   refine reglS fun K31 hK31 => ?_
   refine lQ hF hS (q0 (q_ld_blkW ty182 0 rfl rfl bQ rfl) <| sq_end) fun a w hF hS => ?_
   refine eQ hF hS rfl (ef_storeW ty182 2 rfl rfl rfl rfl bQ oQ bQ) ?_
   rintro _ _ _ a w ⟨rfl, rfl, rfl⟩ hF hS
   replace hS : St _ [_] [_, _, _] _ := hS
   refine wpList_nil (hK31 _ _ ?_)
   refine wp_ret ?_
   exact fn_ret (rs := [.cell 2 182]) rfl hF hS (vs := [_]) ⟨⟨_, _, _, _, _, _, _, rfl, List.mem_of_getElem? (i := 2) rfl, ty182, .inl ⟨rfl, bQ, rfl⟩⟩, trivial⟩ zQ zQ (rfl)
end
section
theorem rtext_ct (xs : List UInt8) (hx : xs.length = 16) (w : World) : Ct Tryz.prog 120 [.agg (xs.map vb).toArray] w (fun r _ _ => r = vs xs) := by
 refine fn_enter Tryz.func120 rfl Tryz.ntmps120 (Nat.le_of_ble_eq_true rfl) fun a hF hS => ?_
 refine reglS fun K1 hK1 => ?_
 refine eQ hF hS rfl (ef_boxA rfl) ?_
 rintro _ _ _ a w ⟨b1, rfl, rfl, rfl⟩ hF hS
 refine lQ hF hS (aQ rfl <| sq_end) fun a w hF hS => ?_
 refine wpList_nil (hK1 _ _ ?_)
 refine k0 ?_; intro K2 hK2
 refine reg hF hS (aQ rfl <| sq_end) fun a w hF hS => ?_
 replace hS := hS.nilRow 5 1
 refine hK2 _ _ ?_
 refine k0 ?_; intro K3 hK3
 refine regS hF hS (aQ rfl <| sq_end) fun a w hF hS => ?_
 refine wp_block ?_
 obtain ⟨hs0, hhs0, hS⟩ := hS.oh
 refine wp_loopx (γ := Value × Int) ((Value.slice none 0 0), 0) (fun (v, i) => [(3, v), (4, vi i)]) [(1, _)] (fun (v, i) => (hs0.set 0 (.row v 5 1 i.toNat ((xs.take i.toNat).map vb)))) (fun (v, i) => 0 ≤ i ∧ i ≤ 16) (fun (v, i) => (16 - i).toNat) (hF.sub ⟨rfl, rfl, rfl, trivial⟩) (by subst hhs0; exact hS) (by simp) ?_
 rintro ⟨v, i⟩ a w hfact hF hS
 subst hhs0; (try dsimp only at hfact hF hS)
 obtain ⟨hi0, hi1⟩ := hfact
 replace hS := nl0_2 hS
 refine k0 ?_; intro K5 hK5
 refine regS hF hS (mQ rfl <| q0 (q_lti rfl rfl) <| sq_end) fun a w hF hS => ?_
 refine wp_ifd hF rfl (fun hc1 => ?_) (fun hc1 => ?_)
 ·refine wp_skip ?_
  refine hK5 _ _ ?_
  refine k0 ?_; intro K7 hK7
  refine wp_block ?_
  refine regl ?_
  refine lQ hF hS (mQ rfl <| mQ rfl <| q0 (q_idx_arr0 ty62 ty5 rfl rfl (by omega)) <| q0 (q_ld_blkM ty5 1 0 rfl rfl bQ rfl) <| sq_end) fun a w hF hS => ?_
  refine eQ hF hS rfl (ef_bsliceA ty25 ty5 rfl rfl oQ (by decide) rfl rfl) ?_
  rintro v3 _ _ a w ⟨rfl, rfl⟩ hF hS
  replace hS := nl0_3 hS
  refine eQ hF hS rfl (ef_append ty25 ty5 1 rfl rfl rfl (src_row ty25 (k := 0) rfl oQ) bQ rfl (by decide)) ?_
  rintro v5 _ _ a w ⟨rfl, rfl⟩ hF hS
  replace hS := nl0_3 hS
  refine lQ hF hS (aQ rfl <| sq_end) fun a w hF hS => ?_
  refine wpList_nil (hK7 _ _ ?_)
  refine reg hF hS (mQ rfl <| pQ rfl rfl <| aQ rfl <| sq_end) fun a w hF hS => ?_
  replace hS := hS.keep zQ (sQ.n)
  refine ⟨(v5, i + 1), ?_, ?_, hF.sub ⟨rfl, rfl, rfl, trivial⟩, ?_⟩
  ·(try dsimp only); omega
  ·(try dsimp only); omega
  ·have e : (xs.take i.toNat).map vb ++ [vb (xs.getD i.toNat 0)] = (xs.take (i + 1).toNat).map vb := by rw [show (i + 1).toNat = i.toNat + 1 by omega, List.take_add_one, List.getElem?_eq_getElem (by omega), List.map_append, List.getD_eq_getElem?_getD, List.getElem?_eq_getElem (by omega)]; rfl
   rw [e, show i.toNat + 1 = (i + 1).toNat by omega] at hS
   exact hS
 ·obtain rfl : i = 16 := by omega
  rw [show (16 : Int).toNat = 16 from rfl, List.take_of_length_le (by omega)] at hS
  refine wp_exit ?_
  refine hK3 _ _ ?_
  refine regS hF hS (mQ rfl <| q0 (q_b2s_row ty25 ty9 ty5 0 rfl rfl) <| aQ rfl <| sq_end) fun a w hF hS => ?_
  refine wp_ret ?_
  exact fn_ret (rs := [.tmp 2]) rfl hF hS (vs := [_]) ⟨rfl, trivial⟩ zQ zQ (rfl)
end
section
attribute [local irreducible] Sha.sum Sha.keyOf Sha.padK Sha.mac
end
section
attribute [local irreducible] Sha.sum Sha.keyOf Sha.padK Sha.mac
end
section
theorem fn123 : FnOk Tryz.prog 123 := fQ Tryz.func123
attribute [local irreducible] Sha.sum Sha.cpW
theorem rshort_ct (v : Value) (xs : List UInt8) (hx : xs.length < 1099511627776) (w : World) (hb : Sl encB (ph w) v xs) {fz0 : Nat × Nat} {bt0 : TypeId} (hg0 : w.heap[0]? = some (.cells (Sha.kc.map vw).toArray bt0 fz0)) : Ct Tryz.prog 79 [v] w (fun r _ _ => r = .agg (((Sha.sum xs).take 16).map vb).toArray) := by
 refine fn_enter Tryz.func79 rfl Tryz.ntmps79 (Nat.le_of_ble_eq_true rfl) fun a hF hS => ?_
 have hsl := Sha.sum_len xs
 refine reglS fun K1 hK1 => ?_
 refine eQ hF hS rfl (ef_allocA ty62) ?_
 rintro _ _ _ a w ⟨b1, rfl, rfl, rfl⟩ hF hS
 rw [show List.replicate 16 (Value.int .u8 0) = (List.replicate 16 (0 : UInt8)).map vb from by rw [List.map_replicate] <;> rfl] at hS
 refine wpList_nil (hK1 _ _ ?_)
 refine reglS fun K2 hK2 => ?_
 refine lQ hF hS (mQ rfl <| q0 (q_call fn123 rfl (fun w hS => rsum_ct _ _ (by first | assumption | omega) w (Sl.mono (hS.le zin0) hb) (hS.ext _ _ hg0)) (fun _ _ _ h => h)) <| sq_end) fun a w hF hS => ?_
 refine eQ hF hS rfl (ef_allocA ty182) ?_
 rintro _ _ _ a w ⟨b2, rfl, rfl, rfl⟩ hF hS
 rw [show List.replicate 32 (Value.int .u8 0) = (List.replicate 32 (0 : UInt8)).map vb from by rw [List.map_replicate] <;> rfl] at hS
 refine eQ hF hS rfl (ef_storeW ty182 0 rfl rfl rfl rfl bQ oQ bQ) ?_
 rintro _ _ _ a w ⟨rfl, rfl, rfl⟩ hF hS
 replace hS := nl0_2 hS
 refine wpList_nil (hK2 _ _ ?_)
 refine reglS fun K3 hK3 => ?_
 refine lQ hF hS (q0 (q_build rfl (run_build_arr ty62 ty5 (cells := List.replicate 16 (Value.int .u8 0)) rfl)) <| sq_end) fun a w hF hS => ?_
 refine eQ hF hS rfl (ef_allocA ty62) ?_
 rintro _ _ _ a w ⟨b3, rfl, rfl, rfl⟩ hF hS
 rw [show List.replicate 16 (Value.int .u8 0) = (List.replicate 16 (0 : UInt8)).map vb from by rw [List.map_replicate] <;> rfl] at hS
 refine eQ hF hS rfl (ef_storeW ty62 0 rfl rfl rfl rfl bQ oQ bQ) ?_
 rintro _ _ _ a w ⟨rfl, rfl, rfl⟩ hF hS
 replace hS := nl0_3 hS
 refine wpList_nil (hK3 _ _ ?_)
 refine k0 ?_; intro K4 hK4
 refine regS hF hS (aQ rfl <| sq_end) fun a w hF hS => ?_
 refine wp_block ?_
 obtain ⟨hs0, hhs0, hS⟩ := hS.oh
 refine wp_loopx (γ := Int) (0) (fun (i : Int) => [(5, vi i)]) [(2, _), (3, _), (4, _)] (fun (i : Int) => (hs0.set 0 (.blk b3 62 ((Sha.cpW (Sha.sum xs) 16 i.toNat).map vb)))) (fun (i : Int) => 0 ≤ i ∧ i ≤ 16) (fun (i : Int) => (16 - i).toNat) (hF.sub ⟨rfl, rfl, rfl, rfl, trivial⟩) (by subst hhs0; have e : (Sha.cpW (Sha.sum xs) 16 (0 : Int).toNat).map vb = List.replicate 16 (Value.int .u8 0) := (congrArg (List.map vb) (Sha.cpW_0 (Sha.sum xs) 16)).trans (by rw [List.map_replicate]; rfl); rw [← e] at hS; exact hS) (by simp) ?_
 rintro i a w hfact hF hS
 subst hhs0; (try dsimp only at hfact hF hS)
 obtain ⟨hi0, hi1⟩ := hfact
 replace hS := nl0_3 hS
 have hcl := Sha.cpW_len (Sha.sum xs) 16 i.toNat (by omega) (by omega)
 refine k0 ?_; intro K6 hK6
 refine regS hF hS (mQ rfl <| q0 (q_lti rfl rfl) <| sq_end) fun a w hF hS => ?_
 refine wp_ifd hF rfl (fun hc1 => ?_) (fun hc1 => ?_)
 ·refine wp_skip ?_
  refine hK6 _ _ ?_
  refine k0 ?_; intro K8 hK8
  refine wp_block ?_
  refine regl ?_
  refine lQ hF hS (mQ rfl <| mQ rfl <| q0 (q_idx_arr0 ty182 ty5 rfl rfl (by omega)) <| q0 (q_ld_blkM ty5 1 0 rfl rfl bQ rfl) <| q0 (q_idx_arr0 ty62 ty5 rfl rfl (by omega)) <| sq_end) fun a w hF hS => ?_
  refine eQ hF hS rfl (ef_st_blkM ty5 0 rfl rfl rfl bQ rfl) ?_
  rintro _ _ _ a w ⟨rfl, rfl, rfl⟩ hF hS
  replace hS := nl0_3 hS
  refine wpList_nil (hK8 _ _ ?_)
  refine reg hF hS (mQ rfl <| pQ rfl rfl <| aQ rfl <| sq_end) fun a w hF hS => ?_
  refine ⟨(i + 1), ?_, ?_, hF.sub ⟨rfl, rfl, rfl, rfl, trivial⟩, ?_⟩
  ·(try dsimp only); omega
  ·(try dsimp only); omega
  ·rw [Sha.cpW_step _ _ _ (by omega) (by omega), show i.toNat + 1 = (i + 1).toNat by omega] at hS
   exact hS
 ·obtain rfl : i = 16 := by omega
  rw [show (16 : Int).toNat = 16 from rfl] at hcl
  rw [show (16 : Int).toNat = 16 from rfl, Sha.cpW_all] at hS
  rw [Sha.cpW_all] at hcl
  refine wp_exit ?_
  refine hK4 _ _ ?_
  refine reglS fun K9 hK9 => ?_
  refine lQ hF hS (q0 (q_ld_blkW ty62 0 rfl rfl bQ rfl) <| sq_end) fun a w hF hS => ?_
  refine eQ hF hS rfl (ef_storeW ty62 2 rfl rfl rfl rfl bQ oQ bQ) ?_
  rintro _ _ _ a w ⟨rfl, rfl, rfl⟩ hF hS
  replace hS := nl0_3 hS
  refine wpList_nil (hK9 _ _ ?_)
  refine wp_ret ?_
  exact fn_ret (rs := [.cell 2 62]) rfl hF hS (vs := [_]) ⟨⟨_, _, _, _, _, _, _, rfl, List.mem_of_getElem? (i := 2) rfl, ty62, .inl ⟨rfl, bQ, rfl⟩⟩, trivial⟩ zQ zQ (rfl)
end
section
theorem rint_ct (n : Int) (hn : -9223372036854775808 ≤ n ∧ n ≤ 9223372036854775807) (w : World) : Ct Tryz.prog 54 [vi n] w (fun v zs hs => zs = [] ∧ hs = [.row v 5 1 (Wi.int n).length ((Wi.int n).map vb)]) := by
 refine fn_enter Tryz.func54 rfl Tryz.ntmps54 (Nat.le_of_ble_eq_true rfl) fun a hF hS => ?_
 have hmm := Wi.mOf_mag n hn
 have hnb8 := Wi.nb_le (Wi.mOf n)
 refine regS hF hS (aQ rfl <| sq_end) fun a w hF hS => ?_
 refine regS hF hS (mQ rfl <| aQ rfl <| sq_end) fun a w hF hS => ?_
 obtain ⟨hs0, hhs0, hS⟩ := hS.oh
 refine wp_cutx (γ := Int) (fun (m : Int) => [(3, vi m)]) [(0, _)] (fun (m : Int) => hs0) (fun (m : Int) => m = ((Wi.mOf n).toNat : Int)) (hF.sub ⟨rfl, trivial⟩) hS ?_ ?_
 ·subst hhs0
  refine regS hF hS (mQ rfl <| q0 (q_lti rfl rfl) <| sq_end) fun a w hF hS => ?_
  refine wp_ifd hF rfl (fun hc1 => ?_) (fun hc1 => ?_)
  ·refine reg hF hS (mQ rfl <| dQ rfl rfl <| aQ rfl <| sq_end) fun a w hF hS => ?_
   refine ⟨(-1 - n), ?_, hF.sub ⟨rfl, rfl, trivial⟩, ?_⟩
   ·rw [hmm]; unfold Wi.mag; rw [if_pos hc1]
   ·exact hS
  ·refine wp_skip ?_
   refine ⟨(n), ?_, hF.sub ⟨rfl, rfl, trivial⟩, ?_⟩
   ·rw [hmm]; unfold Wi.mag; rw [if_neg hc1]
   ·exact hS
 rintro m a w hfact hF hS
 subst hhs0; (try dsimp only at hfact hF hS)
 have hm := hfact
 replace hS : St _ [] [] _ := hS
 refine k0 ?_; intro K4 hK4
 refine reg hF hS (aQ rfl <| sq_end) fun a w hF hS => ?_
 replace hS := hS.nilRow 5 1
 refine hK4 _ _ ?_
 refine k0 ?_; intro K5 hK5
 refine wp_block ?_
 obtain ⟨hs0, hhs0, hS⟩ := hS.oh
 refine wp_loopx (γ := Value × Int × Nat) ((Value.slice none 0 0), m, 0) (fun (v, m, j) => [(4, v), (3, vi m)]) [(0, _)] (fun (v, m, j) => (hs0.set 0 (.row v 5 1 j ((Wi.digLE (Wi.mOf n).toNat j).map vb)))) (fun (v, m, j) => m = (((Wi.mOf n).toNat / 2 ^ (8 * j) : Nat) : Int) ∧ (∀ i, i < j → 0 < (Wi.mOf n).toNat / 2 ^ (8 * i))) (fun (v, m, j) => m.toNat) (hF.sub ⟨rfl, rfl, rfl, trivial⟩) (by subst hhs0; exact hS) (by exact ⟨by rw [hm]; simp, fun i h => absurd h (Nat.not_lt_zero _)⟩) ?_
 rintro ⟨v, m, j⟩ a w hfact hF hS
 subst hhs0; (try dsimp only at hfact hF hS)
 obtain ⟨hm, hj⟩ := hfact
 replace hS := nl0_1 hS
 have hj8 := Wi.nb_max _ _ hj
 have hdv := Wi.div_le (Wi.mOf n).toNat (2 ^ (8 * j))
 rw [← hm] at hdv
 have hmr : 0 ≤ m ∧ m ≤ 9223372036854775807 := by
  have hm0 : 0 ≤ m := by rw [hm]; exact Int.natCast_nonneg _
  unfold Wi.mag at hmm
  split at hmm <;> exact ⟨hm0, by omega⟩
 refine k0 ?_; intro K6 hK6
 refine regS hF hS (mQ rfl <| q0 (q_gti rfl rfl) <| sq_end) fun a w hF hS => ?_
 refine wp_ifd hF rfl (fun hc2 => ?_) (fun hc2 => ?_)
 ·refine wp_skip ?_
  refine hK6 _ _ ?_
  refine wp_block ?_
  refine reglS fun K8 hK8 => ?_
  refine lQ hF hS (mQ rfl <| mQ rfl <| q0 (q_remi rfl rfl (by omega)) <| q0 (q_cv_ib ty3 ty5 rfl) <| sq_end) fun a w hF hS => ?_
  refine eQ hF hS rfl (ef_bsliceA ty25 ty5 rfl rfl oQ (by decide) rfl rfl) ?_
  rintro v2 _ _ a w ⟨rfl, rfl⟩ hF hS
  replace hS := nl0_2 hS
  refine eQ hF hS rfl (ef_append ty25 ty5 1 rfl rfl rfl (src_row ty25 (k := 0) rfl oQ) bQ rfl (by decide)) ?_
  rintro v4 _ _ a w ⟨rfl, rfl⟩ hF hS
  replace hS := nl0_2 hS
  refine lQ hF hS (aQ rfl <| sq_end) fun a w hF hS => ?_
  refine wpList_nil (hK8 _ _ ?_)
  refine reg hF hS (mQ rfl <| q0 (q_quoi rfl rfl (by omega)) <| aQ rfl <| sq_end) fun a w hF hS => ?_
  replace hS := hS.keep zQ (sQ.n)
  refine ⟨(v4, m / 256, j + 1), ?_, ?_, hF.sub ⟨rfl, rfl, rfl, trivial⟩, ?_⟩
  ·(try dsimp only); omega
  ·refine ⟨Wi.div_step _ _ _ hm, fun i hi => ?_⟩
   rcases Nat.lt_or_ge i j with h | h
   ·exact hj i h
   ·obtain rfl : i = j := by omega
    omega
  ·have e : (Wi.digLE (Wi.mOf n).toNat j).map vb ++ [vb (ofb (m % 256))] = (Wi.digLE (Wi.mOf n).toNat (j + 1)).map vb := by rw [← Wi.digLE_step _ _ _ hm, List.map_append]; rfl
   rw [e] at hS
   exact hS
 ·have hk := Wi.nb_un (Wi.mOf n) j (by omega) hj
  obtain ⟨k, hkj⟩ : ∃ k, k = j := ⟨_, rfl⟩
  subst hkj
  refine wp_exit ?_
  refine hK5 _ _ ?_
  refine regS hF hS (mQ rfl <| q0 (q_len_row ty25 0 rfl rfl) <| aQ rfl <| sq_end) fun a w hF hS => ?_
  refine k0 ?_; intro K10 hK10
  refine reg hF hS (aQ rfl <| sq_end) fun a w hF hS => ?_
  replace hS := hS.nilRow 5 1
  refine hK10 _ _ ?_
  obtain ⟨hs0, hhs0, hS⟩ := hS.oh
  refine wp_cutx (γ := Value) (fun (u : Value) => [(6, u)]) [(0, _), (4, _), (5, _)] (fun (u : Value) => (hs0.set 0 (.row u 5 1 1 [vb (UInt8.ofNat (128 + k) ^^^ Wi.flOf n)]))) (fun (u : Value) => True) (hF.sub ⟨rfl, rfl, rfl, trivial⟩) hS ?_ ?_
  ·subst hhs0
   refine regS hF hS (mQ rfl <| q0 (q_gei rfl rfl) <| sq_end) fun a w hF hS => ?_
   refine wp_ifd hF rfl (fun hc3 => ?_) (fun hc3 => ?_)
   ·refine regl ?_
    refine lQ hF hS (mQ rfl <| mQ rfl <| pQ rfl rfl <| q0 (q_cv_ib ty3 ty5 rfl) <| sq_end) fun a w hF hS => ?_
    refine eQ hF hS rfl (ef_bsliceA ty25 ty5 rfl rfl oQ (by decide) rfl rfl) ?_
    rintro v6 _ _ a w ⟨rfl, rfl⟩ hF hS
    replace hS := nl0_3 hS
    refine eQ hF hS rfl (ef_append ty25 ty5 1 rfl rfl rfl (src_row ty25 (k := 0) rfl oQ) bQ rfl (by decide)) ?_
    rintro v8 _ _ a w ⟨rfl, rfl⟩ hF hS
    replace hS := nl0_3 hS
    refine lQ hF hS (aQ rfl <| sq_end) fun a w hF hS => ?_
    refine wpList_nil ?_
    replace hS := hS.perm (.swap _ _ _)
    replace hS := hS.perm (.cons _ (.swap _ _ _))
    replace hS := hS.keep zQ (zQ.k.k)
    refine ⟨(v8), ?_, hF.sub ⟨rfl, rfl, rfl, rfl, trivial⟩, ?_⟩
    ·trivial
    ·rw [show (128 : Int) + (k : Int) = ((128 + k : Nat) : Int) by omega, Wi.ofb_nat] at hS
     unfold Wi.flOf
     rw [if_neg (by omega), UInt8.xor_zero]
     exact hS
   ·refine regl ?_
    refine lQ hF hS (mQ rfl <| mQ rfl <| dQ rfl rfl <| q0 (q_cv_ib ty3 ty5 rfl) <| sq_end) fun a w hF hS => ?_
    refine eQ hF hS rfl (ef_bsliceA ty25 ty5 rfl rfl oQ (by decide) rfl rfl) ?_
    rintro v9 _ _ a w ⟨rfl, rfl⟩ hF hS
    replace hS := nl0_3 hS
    refine eQ hF hS rfl (ef_append ty25 ty5 1 rfl rfl rfl (src_row ty25 (k := 0) rfl oQ) bQ rfl (by decide)) ?_
    rintro v11 _ _ a w ⟨rfl, rfl⟩ hF hS
    replace hS := nl0_3 hS
    refine lQ hF hS (aQ rfl <| sq_end) fun a w hF hS => ?_
    refine wpList_nil ?_
    replace hS := hS.perm (.swap _ _ _)
    replace hS := hS.perm (.cons _ (.swap _ _ _))
    replace hS := hS.keep zQ (zQ.k.k)
    refine ⟨(v11), ?_, hF.sub ⟨rfl, rfl, rfl, rfl, trivial⟩, ?_⟩
    ·trivial
    ·rw [Wi.head_neg k (by omega)] at hS
     unfold Wi.flOf
     rw [if_pos (by omega)]
     exact hS
  rintro u a w hfact hF hS
  subst hhs0; (try dsimp only at hfact hF hS)
  obtain - := hfact
  replace hS := nl0_2 hS
  refine k0 ?_; intro K12 hK12
  refine regS hF hS (mQ rfl <| dQ rfl rfl <| aQ rfl <| sq_end) fun a w hF hS => ?_
  refine wp_block ?_
  obtain ⟨hs0, hhs0, hS⟩ := hS.oh
  refine wp_loopx (γ := Value × Nat) (u, k) (fun (u, i) => [(6, u), (7, vi ((i : Int) - 1))]) [(0, _), (4, _)] (fun (u, i) => (hs0.set 0 (.row u 5 1 (1 + (k - i)) (((UInt8.ofNat (128 + k) ^^^ Wi.flOf n) :: Wi.digsFrom (Wi.mOf n) (Wi.flOf n) k i).map vb)))) (fun (u, i) => i ≤ k) (fun (u, i) => i) (hF.sub ⟨rfl, rfl, rfl, rfl, trivial⟩) (by subst hhs0; simpa [Wi.digsFrom] using hS) (by exact Nat.le_refl _) ?_
  rintro ⟨u, i⟩ a w hfact hF hS
  subst hhs0; (try dsimp only at hfact hF hS)
  have hik := hfact
  replace hS := nl0_2 hS
  have hdl := Wi.digLE_len (Wi.mOf n).toNat k
  refine k0 ?_; intro K14 hK14
  refine regS hF hS (mQ rfl <| q0 (q_gei rfl rfl) <| sq_end) fun a w hF hS => ?_
  refine wp_ifd hF rfl (fun hc4 => ?_) (fun hc4 => ?_)
  ·refine wp_skip ?_
   refine hK14 _ _ ?_
   refine k0 ?_; intro K16 hK16
   refine wp_block ?_
   refine regS hF hS (mQ rfl <| mQ rfl <| q0 (q_idx_row ty25 ty5 1 rfl rfl rfl (by omega)) <| q0 (q_ld_rowM ty5 1 (0 : UInt8) rfl rfl bQ rfl) <| aQ rfl <| sq_end) fun a w hF hS => ?_
   obtain ⟨hs0, hhs0, hS⟩ := hS.oh
   refine wp_cutx (γ := UInt8) (fun (d : UInt8) => [(8, vb d)]) [(0, _), (4, _), (6, _), (7, _)] (fun (d : UInt8) => hs0) (fun (d : UInt8) => d = Wi.digit (Wi.mOf n) (Wi.flOf n) (i - 1)) (hF.sub ⟨rfl, rfl, rfl, rfl, trivial⟩) hS ?_ ?_
   ·subst hhs0
    refine regS hF hS (mQ rfl <| q0 (q_lti rfl rfl) <| sq_end) fun a w hF hS => ?_
    refine wp_ifd hF rfl (fun hc5 => ?_) (fun hc5 => ?_)
    ·refine reg hF hS (mQ rfl <| q0 (q_subb (p := 255) rfl rfl) <| aQ rfl <| sq_end) fun a w hF hS => ?_
     refine ⟨(255 - (Wi.digLE (Wi.mOf n).toNat k).getD ((i : Int) - 1).toNat 0), ?_, hF.sub ⟨rfl, rfl, rfl, rfl, rfl, trivial⟩, ?_⟩
     ·rw [Wi.fl_sub, Wi.digLE_get _ _ _ (by omega), show ((i : Int) - 1).toNat = i - 1 by omega]; unfold Wi.digit Wi.flOf; rw [if_pos (by omega)]
     ·exact hS
    ·refine wp_skip ?_
     refine ⟨((Wi.digLE (Wi.mOf n).toNat k).getD ((i : Int) - 1).toNat 0), ?_, hF.sub ⟨rfl, rfl, rfl, rfl, rfl, trivial⟩, ?_⟩
     ·rw [Wi.digLE_get _ _ _ (by omega), show ((i : Int) - 1).toNat = i - 1 by omega]; unfold Wi.digit Wi.flOf; rw [if_neg (by omega), UInt8.xor_zero]
     ·exact hS
   rintro d a w hfact hF hS
   subst hhs0; (try dsimp only at hfact hF hS)
   have hd := hfact
   replace hS := nl0_2 hS
   refine regl ?_
   refine lQ hF hS (mQ rfl <| mQ rfl <| sq_end) fun a w hF hS => ?_
   refine eQ hF hS rfl (ef_bsliceA ty25 ty5 rfl rfl oQ (by decide) rfl rfl) ?_
   rintro v12 _ _ a w ⟨rfl, rfl⟩ hF hS
   replace hS := nl0_3 hS
   refine eQ hF hS rfl (ef_append ty25 ty5 1 rfl rfl rfl (src_row ty25 (k := 0) rfl oQ) bQ rfl (by decide)) ?_
   rintro v14 _ _ a w ⟨rfl, rfl⟩ hF hS
   replace hS := nl0_3 hS
   refine lQ hF hS (aQ rfl <| sq_end) fun a w hF hS => ?_
   refine wpList_nil (hK16 _ _ ?_)
   refine reg hF hS (mQ rfl <| dQ rfl rfl <| aQ rfl <| sq_end) fun a w hF hS => ?_
   rw [show (i : Int) - 1 - 1 = ((i - 1 : Nat) : Int) - 1 by omega] at hF
   replace hS := hS.keep zQ (sQ.n)
   refine ⟨(v14, i - 1), ?_, ?_, hF.sub ⟨rfl, rfl, rfl, rfl, trivial⟩, ?_⟩
   ·(try dsimp only); omega
   ·(try dsimp only); omega
   ·subst hd
    have e : ((UInt8.ofNat (128 + k) ^^^ Wi.flOf n) :: Wi.digsFrom (Wi.mOf n) (Wi.flOf n) k i).map vb ++ [vb (Wi.digit (Wi.mOf n) (Wi.flOf n) (i - 1))] = ((UInt8.ofNat (128 + k) ^^^ Wi.flOf n) :: Wi.digsFrom (Wi.mOf n) (Wi.flOf n) k (i - 1)).map vb := by rw [← Wi.digs_step _ _ k (i - 1) (by omega), show i - 1 + 1 = i by omega]; simp
    rw [e, show 1 + (k - i) + 1 = 1 + (k - (i - 1)) by omega] at hS
    exact hS
  ·obtain rfl : i = 0 := by omega
   have e : ((UInt8.ofNat (128 + k) ^^^ Wi.flOf n) :: Wi.digsFrom (Wi.mOf n) (Wi.flOf n) k 0) = Wi.int n := by rw [hk]; rfl
   have el : 1 + (k - 0) = (Wi.int n).length := by rw [← e]; simp [Wi.digs_len]; omega
   rw [e, el] at hS
   refine wp_exit ?_
   refine hK12 _ _ ?_
   refine regS hF hS (mQ rfl <| aQ rfl <| sq_end) fun a w hF hS => ?_
   refine wp_ret ?_
   exact fn_ret (rs := [.tmp 2]) rfl hF hS (vs := [_]) ⟨rfl, trivial⟩ zQ (List.Sublist.cons_cons _ zQ) ⟨rfl, rfl⟩
end
section
theorem fn54 : FnOk Tryz.prog 54 := fQ Tryz.func54
attribute [local irreducible] Sha.sum Wi.int
theorem rbytes_ct (t : List UInt8) (ht : t.length < 1099511627776) (w : World) : Ct Tryz.prog 55 [vs t] w (fun v zs hs => zs = [] ∧ hs = [.row v 5 1 (Wi.bytes t).length ((Wi.bytes t).map vb)]) := by
 refine fn_enter Tryz.func55 rfl Tryz.ntmps55 (Nat.le_of_ble_eq_true rfl) fun a hF hS => ?_
 have hil := Wi.int_len9 t.length
 refine regS hF hS (aQ rfl <| sq_end) fun a w hF hS => ?_
 refine reglS fun K2 hK2 => ?_
 refine lQ hF hS (mQ rfl <| q0 (q_len_s ty9 rfl) <| sq_end) fun a w hF hS => ?_
 refine eQ hF hS rfl (ef_call fn54 rfl (fun w hS => rint_ct _ (by omega) w )) ?_
 rintro v1 _ _ a w ⟨_, _, rfl, rfl, rfl, rfl⟩ hF hS
 replace hS := nl0_1 hS
 refine lQ hF hS (mQ rfl <| sq_end) fun a w hF hS => ?_
 refine eQ hF hS rfl (ef_s2b ty9 ty25 ty5 rfl (by omega)) ?_
 rintro v3 _ _ a w ⟨z4, rfl, rfl, hz5⟩ hF hS
 refine eQ hF hS rfl (ef_append ty25 ty5 0 rfl rfl rfl (src_slV ty25 hz5 (.inr (by simp))) bQ rfl (by decide)) ?_
 rintro v6 _ _ a w ⟨rfl, rfl⟩ hF hS
 replace hS : St _ [_] [_] _ := hS
 refine lQ hF hS (aQ rfl <| sq_end) fun a w hF hS => ?_
 refine wpList_nil (hK2 _ _ ?_)
 refine wp_ret ?_
 rw [← List.map_append, show (Wi.int t.length).length + t.length = (Wi.bytes t).length by simp [Wi.bytes]] at hS
 exact fn_ret (rs := [.tmp 2]) rfl hF hS (vs := [_]) ⟨rfl, trivial⟩ zQ sQ ⟨rfl, rfl⟩
end
section
theorem fn55 : FnOk Tryz.prog 55 := fQ Tryz.func55
attribute [local irreducible] Sha.sum Wi.int Wi.bytes Sha.inp
theorem rinput_ct (tag : Int) (v : Value) (ps : List (List UInt8)) (hp : ∀ p ∈ ps, p.length < 1048576) (hl : ps.length < 1048576) (w : World) (hb : Sl Go.Fw.encS (ph w) v ps) : Ct Tryz.prog 154 [vi tag, v] w (fun r zs hs => ∃ z, Sl encB z r (Sha.inp tag ps) ∧ zs = [z] ∧ hs = []) := by
 refine fn_enter Tryz.func154 rfl Tryz.ntmps154 (Nat.le_of_ble_eq_true rfl) fun a hF hS => ?_
 refine regS hF hS (aQ rfl <| sq_end) fun a w hF hS => ?_
 refine reglS fun K2 hK2 => ?_
 refine lQ hF hS (mQ rfl <| q0 (q_cv_ib ty3 ty5 rfl) <| sq_end) fun a w hF hS => ?_
 refine eQ hF hS rfl (ef_bsliceA ty25 ty5 rfl rfl oQ (by decide) rfl rfl) ?_
 rintro v1 _ _ a w ⟨rfl, rfl⟩ hF hS
 replace hS := nl0_1 hS
 refine lQ hF hS (aQ rfl <| sq_end) fun a w hF hS => ?_
 refine wpList_nil (hK2 _ _ ?_)
 refine k0 ?_; intro K3 hK3
 refine regS hF hS (aQ rfl <| sq_end) fun a w hF hS => ?_
 refine wp_block ?_
 obtain ⟨hs0, hhs0, hS⟩ := hS.oh
 refine wp_loopx (γ := Value × Int) (v1, 0) (fun (u, i) => [(5, u), (6, vi i)]) [(1, _)] (fun (u, i) => (hs0.set 0 (.row u 5 1 (Sha.inp tag (ps.take i.toNat)).length ((Sha.inp tag (ps.take i.toNat)).map vb)))) (fun (u, i) => 0 ≤ i ∧ i ≤ ps.length) (fun (u, i) => (ps.length - i).toNat) (hF.sub ⟨rfl, rfl, rfl, trivial⟩) (by subst hhs0; have e : Sha.inp tag (ps.take (0 : Int).toNat) = [ofb tag] := (by unfold Sha.inp; rfl); dsimp only; rw [e]; exact hS) (by exact ⟨Int.le_refl _, by omega⟩) ?_
 rintro ⟨u, i⟩ a w hfact hF hS
 subst hhs0; (try dsimp only at hfact hF hS)
 obtain ⟨hi0, hi1⟩ := hfact
 replace hS := nl0_1 hS
 have hpt : ∀ p ∈ ps.take i.toNat, p.length < 1048576 := fun p h => hp p (List.mem_of_mem_take h)
 have htl := Sha.inp_len tag (ps.take i.toNat) hpt
 rw [List.length_take] at htl
 refine k0 ?_; intro K5 hK5
 refine regS hF hS (mQ rfl <| mQ rfl <| q0 (q_len_sl ty40 hb rfl) <| q0 (q_lti rfl rfl) <| sq_end) fun a w hF hS => ?_
 refine wp_ifd hF rfl (fun hc1 => ?_) (fun hc1 => ?_)
 ·have hpi := hp _ (Sha.getD_mem ps i.toNat (by omega))
  have hbl := Wi.bytes_len (ps.getD i.toNat [])
  refine wp_skip ?_
  refine hK5 _ _ ?_
  refine k0 ?_; intro K7 hK7
  refine wp_block ?_
  refine regl ?_
  refine lQ hF hS (mQ rfl <| mQ rfl <| mQ rfl <| q0 (q_idx_sl ty40 ty9 hb rfl rfl (by omega)) <| q0 (q_ld_S ty9 hb zin0 rfl rfl (by omega)) <| sq_end) fun a w hF hS => ?_
  refine eQ hF hS rfl (ef_call fn55 rfl (fun w hS => rbytes_ct _ (by first | with_reducible assumption | omega) w )) ?_
  rintro v3 _ _ a w ⟨_, _, rfl, rfl, rfl, rfl⟩ hF hS
  replace hS := nl0_2 hS
  refine eQ hF hS rfl (ef_append ty25 ty5 1 rfl rfl rfl (src_row ty25 (k := 0) rfl oQ) bQ rfl (by decide)) ?_
  rintro v5 _ _ a w ⟨rfl, rfl⟩ hF hS
  replace hS := nl0_2 hS
  refine lQ hF hS (aQ rfl <| sq_end) fun a w hF hS => ?_
  refine wpList_nil (hK7 _ _ ?_)
  refine reg hF hS (mQ rfl <| pQ rfl rfl <| aQ rfl <| sq_end) fun a w hF hS => ?_
  replace hS := hS.keep zQ (sQ.n)
  refine ⟨(v5, i + 1), ?_, ?_, hF.sub ⟨rfl, rfl, rfl, trivial⟩, ?_⟩
  ·(try dsimp only); omega
  ·(try dsimp only); omega
  ·rw [← List.map_append, Sha.inp_step _ _ _ (by omega), ← List.length_append, Sha.inp_step _ _ _ (by omega), show i.toNat + 1 = (i + 1).toNat by omega] at hS
   exact hS
 ·obtain rfl : i = ps.length := by omega
  rw [Int.toNat_natCast, List.take_length] at hS
  refine wp_exit ?_
  refine hK3 _ _ ?_
  refine regS hF hS (mQ rfl <| aQ rfl <| sq_end) fun a w hF hS => ?_
  refine wp_ret ?_
  have hil := Sha.inp_len tag ps hp
  obtain ⟨z, hz1, hS⟩ := St.freezeB hS rfl (by omega)
  exact fn_ret (rs := [.tmp 4]) rfl hF hS (vs := [_]) ⟨rfl, trivial⟩ (zs' := [z]) (hs' := []) sQ zQ ⟨z, hz1, rfl, rfl⟩
end
section
theorem samet_ct (v1 v2 : Value) (xa xb : List (List UInt8)) (w : World) (hb1 : Sl Go.Fw.encS (ph w) v1 xa) (hb2 : Sl Go.Fw.encS (ph w) v2 xb) : Ct Tryz.prog 37 [v1, v2] w (fun r _ _ => r = .bool (decide (xa = xb))) := by
 refine fn_enter Tryz.func37 rfl Tryz.ntmps37 (Nat.le_of_ble_eq_true rfl) fun a hF hS => ?_
 have hla := hb1.1
 have hlb := hb2.1
 refine regS hF hS (aQ rfl <| sq_end) fun a w hF hS => ?_
 refine k0 ?_; intro K2 hK2
 refine regS hF hS (mQ rfl <| q0 (q_len_sl ty40 hb1 rfl) <| mQ rfl <| q0 (q_len_sl ty40 hb2 rfl) <| q0 (q_nei rfl rfl) <| sq_end) fun a w hF hS => ?_
 refine wp_ifn hF rfl (fun hc1 => ?_) (fun hc1 => ?_)
 ·refine k0 ?_; intro K4 hK4
  refine reg hF hS (aQ rfl <| sq_end) fun a w hF hS => ?_
  refine hK4 _ _ ?_
  refine wp_ret ?_
  exact fn_ret (rs := [.tmp 4]) rfl hF hS (vs := [_]) ⟨rfl, trivial⟩ zQ zQ (Ls.same_len hc1)
 ·refine wp_skip ?_
  refine hK2 _ _ ?_
  refine k0 ?_; intro K5 hK5
  refine regS hF hS (aQ rfl <| sq_end) fun a w hF hS => ?_
  refine wp_block ?_
  obtain ⟨hs0, hhs0, hS⟩ := hS.oh
  refine wp_loopx (γ := Int) (0) (fun (i : Int) => [(5, vi i)]) [(0, _), (1, _)] (fun (i : Int) => hs0) (fun (i : Int) => 0 ≤ i ∧ i ≤ xa.length ∧ xa.take i.toNat = xb.take i.toNat) (fun (i : Int) => (xa.length - i).toNat) (hF.sub ⟨rfl, rfl, rfl, trivial⟩) (by subst hhs0; exact hS) (by exact ⟨Int.le_refl _, by omega, rfl⟩) ?_
  rintro i a w hfact hF hS
  subst hhs0; (try dsimp only at hfact hF hS)
  obtain ⟨hi0, hi1, htk⟩ := hfact
  replace hS : St _ [] [] _ := hS
  refine k0 ?_; intro K7 hK7
  refine regS hF hS (mQ rfl <| mQ rfl <| q0 (q_len_sl ty40 hb1 rfl) <| q0 (q_lti rfl rfl) <| sq_end) fun a w hF hS => ?_
  refine wp_ifd hF rfl (fun hc2 => ?_) (fun hc2 => ?_)
  ·have hi2 : i < xb.length := by omega
   refine wp_skip ?_
   refine hK7 _ _ ?_
   refine k0 ?_; intro K9 hK9
   refine wp_block ?_
   refine regdS mixed kQ hF hS (mQ rfl <| mQ rfl <| q0 (q_idx_sl ty40 ty9 hb1 rfl rfl (by omega)) <| q0 (q_ld_S ty9 hb1 zin0 rfl rfl (by omega)) <| mQ rfl <| mQ rfl <| q0 (q_idx_sl ty40 ty9 hb2 rfl rfl (by omega)) <| q0 (q_ld_S ty9 hb2 zin0 rfl rfl (by omega)) <| q0 (q_nes rfl rfl) <| sq_end) fun a w hF hS => ?_
   refine wp_ifn hF rfl (fun hc3 => ?_) (fun hc3 => ?_)
   ·refine k0 ?_; intro K11 hK11
    refine reg hF hS (aQ rfl <| sq_end) fun a w hF hS => ?_
    refine hK11 _ _ ?_
    refine wp_ret ?_
    exact fn_ret (rs := [.tmp 4]) rfl hF hS (vs := [_]) ⟨rfl, trivial⟩ zQ zQ (Ls.same_ne [] hc3)
   ·refine wp_skip ?_
    refine hK9 _ _ ?_
    refine reg hF hS (mQ rfl <| pQ rfl rfl <| aQ rfl <| sq_end) fun a w hF hS => ?_
    refine ⟨(i + 1), ?_, ?_, hF.sub ⟨rfl, rfl, rfl, trivial⟩, ?_⟩
    ·(try dsimp only); omega
    ·refine ⟨by omega, by omega, Ls.same_step [] hi0 (by omega) hc1 hc3 htk⟩
    ·exact hS
  ·refine wp_exit ?_
   refine hK5 _ _ ?_
   refine regS hF hS (aQ rfl <| sq_end) fun a w hF hS => ?_
   refine wp_ret ?_
   exact fn_ret (rs := [.tmp 4]) rfl hF hS (vs := [_]) ⟨rfl, trivial⟩ zQ zQ (Ls.same_eq hc1 hc2 htk)
attribute [local irreducible] Wi.int Wi.bytes Wi.ints Wi.strs Wi.dgs Ls.encT
end
section
attribute [local irreducible] Wi.int Wi.bytes Wi.ints Wi.strs Wi.dgs Ls.encT Wi.getInt Wi.valBE Wi.vj
theorem gi_nil : Wi.getInt [] = (0, 0, 3) := by unfold Wi.getInt; rfl
theorem cons_of {xs : List UInt8} (h : ¬ (xs.length : Int) = 0) : ∃ a t, xs = a :: t := by
 cases xs with
 | nil => simp at h
 | cons a t => exact ⟨a, t, rfl⟩
theorem nil_of {xs : List UInt8} (h : (xs.length : Int) = 0) : Wi.getInt xs = (0, 0, 3) := by
 have : xs = [] := List.eq_nil_of_length_eq_zero (by omega)
 rw [this]; exact gi_nil
theorem wgi_ct (v : Value) (xs : List UInt8) (w : World) (hb : Sl encB (ph w) v xs) : Ct Tryz.prog 59 [v] w (fun r _ _ => r = .tuple [vi (Wi.getInt xs).1, vi (Wi.getInt xs).2.1, vi (Wi.getInt xs).2.2].toArray) := by
 refine fn_enter Tryz.func59 rfl Tryz.ntmps59 (Nat.le_of_ble_eq_true rfl) fun a hF hS => ?_
 have hbl := hb.1
 refine regS hF hS (aQ rfl <| aQ rfl <| aQ rfl <| sq_end) fun a w hF hS => ?_
 refine k0 ?_; intro K2 hK2
 refine regS hF hS (mQ rfl <| q0 (q_len_sl ty25 hb rfl) <| q0 (q_eqi rfl rfl) <| sq_end) fun a w hF hS => ?_
 refine wp_ifd hF rfl (fun hc1 => ?_) (fun hc1 => ?_)
 ·refine k0 ?_; intro K4 hK4
  refine reg hF hS (aQ rfl <| aQ rfl <| aQ rfl <| sq_end) fun a w hF hS => ?_
  refine hK4 _ _ ?_
  refine wp_ret ?_
  exact fn_ret (rs := [.tmp 2, .tmp 3, .tmp 4]) rfl hF hS (vs := [_, _, _]) ⟨rfl, rfl, rfl, trivial⟩ zQ zQ (Wi.gi_eq (nil_of hc1))
 ·obtain ⟨h, t, rfl⟩ := cons_of hc1
  have hll : (h :: t).length = t.length + 1 := rfl
  refine wp_skip ?_
  refine hK2 _ _ ?_
  refine regS hF hS (aQ rfl <| sq_end) fun a w hF hS => ?_
  obtain ⟨hs0, hhs0, hS⟩ := hS.oh
  refine wp_cutx (γ := UInt8) (fun (fl : UInt8) => [(5, vb fl)]) [(0, _)] (fun (fl : UInt8) => hs0) (fun (fl : UInt8) => fl = Wi.flipOf h) (hF.sub ⟨rfl, trivial⟩) hS ?_ ?_
  ·subst hhs0
   refine regS hF hS (mQ rfl <| q0 (q_idx_sl ty25 ty5 hb rfl rfl (by omega)) <| q0 (q_ld_B ty5 hb zin0 rfl rfl (by omega)) <| q0 (q_ltb (q := 128) rfl rfl) <| sq_end) fun a w hF hS => ?_
   refine wp_ifd hF rfl (fun hc2 => ?_) (fun hc2 => ?_)
   ·refine reg hF hS (aQ rfl <| sq_end) fun a w hF hS => ?_
    refine ⟨(255), ?_, hF.sub ⟨rfl, rfl, trivial⟩, ?_⟩
    ·unfold Wi.flipOf; rw [if_pos (show h < 128 from hc2)]
    ·exact hS
   ·refine wp_skip ?_
    refine ⟨(0), ?_, hF.sub ⟨rfl, rfl, trivial⟩, ?_⟩
    ·unfold Wi.flipOf; rw [if_neg (show ¬ h < 128 from hc2)]
    ·exact hS
  rintro fl a w hfact hF hS
  subst hhs0; (try dsimp only at hfact hF hS)
  have hfl := hfact
  replace hS : St _ [] [] _ := hS
  have h88 := toNat8 ((h :: t).getD (Int.toNat 0) 0 ^^^ fl)
  refine k0 ?_; intro K7 hK7
  refine reg hF hS (mQ rfl <| q0 (q_idx_sl ty25 ty5 hb rfl rfl (by omega)) <| q0 (q_ld_B ty5 hb zin0 rfl rfl (by omega)) <| mQ rfl <| q0 (q_xorb rfl rfl) <| q0 (q_cv_bi ty5 ty3 rfl) <| dQ rfl rfl <| aQ rfl <| sq_end) fun a w hF hS => ?_
  have hge := Wi.flip_ge h
  rw [← hfl] at hge
  obtain ⟨K, hK⟩ : ∃ K : Nat, K = (h ^^^ fl).toNat - 128 := ⟨_, rfl⟩
  change Fr _ ((6, vi (((h ^^^ fl).toNat : Int) - 128)) :: _) a at hF
  rw [show (((h ^^^ fl).toNat : Int) - 128) = (K : Int) by omega] at hF
  refine hK7 _ _ ?_
  refine k0 ?_; intro K8 hK8
  refine wp_block ?_
  refine regS hF hS (mQ rfl <| q0 (q_gti rfl rfl) <| aQ rfl <| sq_end) fun a w hF hS => ?_
  refine wp_ifd hF rfl (fun hc3 => ?_) (fun hc3 => ?_)
  ·refine k0 ?_; intro K10 hK10
   refine reg hF hS (aQ rfl <| aQ rfl <| aQ rfl <| sq_end) fun a w hF hS => ?_
   refine hK10 _ _ ?_
   refine wp_ret ?_
   exact fn_ret (rs := [.tmp 2, .tmp 3, .tmp 4]) rfl hF hS (vs := [_, _, _]) ⟨rfl, rfl, rfl, trivial⟩ zQ zQ (Wi.gi_eq (Wi.gi_big hfl hK (by omega)))
  ·have h8 : ¬ 8 < K := by omega
   refine regS hF hS (mQ rfl <| q0 (q_len_sl ty25 hb rfl) <| mQ rfl <| q0 (q_lei rfl rfl) <| aQ rfl <| sq_end) fun a w hF hS => ?_
   refine wp_ifd hF rfl (fun hc4 => ?_) (fun hc4 => ?_)
   ·have hlt : t.length < K := by omega
    refine regS hF hS (aQ rfl <| aQ rfl <| aQ rfl <| sq_end) fun a w hF hS => ?_
    refine wp_ret ?_
    exact fn_ret (rs := [.tmp 2, .tmp 3, .tmp 4]) rfl hF hS (vs := [_, _, _]) ⟨rfl, rfl, rfl, trivial⟩ zQ zQ (Wi.gi_eq (Wi.gi_more hfl hK h8 hlt))
   ·have hlt : ¬ t.length < K := by omega
    refine reglS fun K13 hK13 => ?_
    refine lQ hF hS (mQ rfl <| q0 (q_gti rfl rfl) <| mQ rfl <| sq_end) fun a w hF hS => ?_
    refine wpl_and 2 35 6 hF hS rfl rfl rfl rfl rfl (fun hg => have hg := (by first | exact of_decide_eq_true hg | exact hg); sq_go 35 rfl rfl rfl (q_move rfl) <| sq_go 35 rfl rfl rfl (q_idx_sl ty25 ty5 hb rfl rfl (by omega)) <| sq_go 35 rfl rfl rfl (q_ld_B ty5 hb zin0 rfl rfl (by omega)) <| sq_go 35 rfl rfl rfl (q_move rfl) <| sq_go 35 rfl rfl rfl (q_xorb rfl rfl) <| sq_go 35 rfl rfl rfl (q_eqb (q := 0) rfl rfl) <| sq_end) rfl rfl fun a w hF hS => ?_
    refine lQ hF hS (aQ rfl <| sq_end) fun a w hF hS => ?_
    refine wpList_nil (hK13 _ _ ?_)
    refine wp_if hF rfl (fun hc5 => ?_) (fun hc5 => ?_)
    ·(try simp only [bS] at hc5)
     have h0 : 0 < K ∧ t.getD 0 0 ^^^ fl = 0 := ⟨by omega, hc5.2⟩
     refine regS hF hS (aQ rfl <| aQ rfl <| aQ rfl <| sq_end) fun a w hF hS => ?_
     refine wp_ret ?_
     exact fn_ret (rs := [.tmp 2, .tmp 3, .tmp 4]) rfl hF hS (vs := [_, _, _]) ⟨rfl, rfl, rfl, trivial⟩ zQ zQ (Wi.gi_eq (Wi.gi_zero hfl hK h8 hlt h0))
    ·(try simp only [bS] at hc5)
     have h0 : ¬ (0 < K ∧ t.getD 0 0 ^^^ fl = 0) := fun h9 => hc5.elim (fun h => h (by omega)) (fun h => h h9.2)
     refine wp_skip ?_
     refine hK8 _ _ ?_
     refine regS hF hS (aQ rfl <| sq_end) fun a w hF hS => ?_
     refine k0 ?_; intro K16 hK16
     refine k0 ?_; intro K17 hK17
     refine reg hF hS (mQ rfl <| mQ rfl <| pQ rfl rfl <| q0 (q_slsl_lo_hi ty25 ty5 hb rfl rfl rfl (by omega)) <| q0 (q_len_sl ty25 (Sl.cut hb (by omega)) rfl) <| mQ rfl <| sq_end) fun a w hF hS => ?_
     have hsl := Wi.take_K (h := h) (t := t) (K := K)
     have hsn : ((((h :: t).take ((K : Int) + 1).toNat).drop (1 : Int).toNat).length : Int) = K := by rw [hsl, List.length_take]; omega
     refine hK17 _ _ ?_
     refine wp_block ?_
     obtain ⟨hs0, hhs0, hS⟩ := hS.oh
     refine wp_loopx (γ := UInt64 × Int) (0, 0) (fun (m, j) => [(7, vq m), (48, vi j)]) [(5, _), (6, _), (46, _), (47, _)] (fun (m, j) => hs0) (fun (m, j) => 0 ≤ j ∧ j ≤ K ∧ m.toNat = Wi.vj t fl K j.toNat) (fun (m, j) => (K - j).toNat) (hF.sub ⟨rfl, rfl, rfl, rfl, rfl, rfl, trivial⟩) (by subst hhs0; exact hS) (by exact ⟨Int.le_refl _, by omega, by rw [show (0 : Int).toNat = 0 from rfl, Wi.vj_0]; rfl⟩) ?_
     rintro ⟨m, j⟩ a w hfact hF hS
     subst hhs0; (try dsimp only at hfact hF hS)
     obtain ⟨hj0, hj1, hmv⟩ := hfact
     replace hS : St _ [] [] _ := hS
     refine regS hF hS (q0 (q_lti rfl rfl) <| sq_end) fun a w hF hS => ?_
     refine k0 ?_; intro K19 hK19
     refine wp_ifd hF rfl (fun hc6 => ?_) (fun hc6 => ?_)
     ·refine wp_skip ?_
      refine hK19 _ _ ?_
      refine k0 ?_; intro K20 hK20
      refine wp_block ?_
      refine regS hF hS (q0 (q_idx_sl ty25 ty5 (Sl.cut hb (by omega)) rfl rfl (by omega)) <| q0 (q_ld_B ty5 (Sl.cut hb (by omega)) zin0 rfl rfl (by omega)) <| aQ rfl <| sq_end) fun a w hF hS => ?_
      refine reg hF hS (mQ rfl <| q0 (q_shlq rfl rfl (by omega)) <| mQ rfl <| mQ rfl <| q0 (q_xorb rfl rfl) <| q0 (q_cv_bq ty5 ty179 rfl) <| q0 (q_orq rfl rfl) <| aQ rfl <| sq_end) fun a w hF hS => ?_
      refine hK20 _ _ ?_
      refine reg hF hS (pQ rfl rfl <| mQ rfl <| sq_end) fun a w hF hS => ?_
      refine ⟨(_, j + 1), ?_, ?_, hF.sub ⟨rfl, rfl, rfl, rfl, rfl, rfl, trivial⟩, ?_⟩
      ·(try dsimp only); omega
      ·refine ⟨by omega, by omega, ?_⟩
       rw [Wi.shl8_or _ _ (by rw [hmv]; exact Wi.vj_lt t fl K j.toNat (by omega)), show (j + 1).toNat = j.toNat + 1 by omega, Wi.vj_succ t fl K j.toNat (by omega) (by omega), hmv, hsl, List.getD_eq_getElem?_getD, List.getD_eq_getElem?_getD, List.getElem?_take, if_pos (by omega)]
      ·exact hS
     ·have hjK : j = (K : Int) := by omega
      have hmK : m.toNat = Wi.vj t fl K K := by rw [hmv, hjK, Int.toNat_natCast]
      clear hmv
      refine wp_exit ?_
      refine hK16 _ _ ?_
      refine k0 ?_; intro K22 hK22
      refine regS hF hS (mQ rfl <| q0 (q_shrq rfl rfl (by omega)) <| q0 (q_gtq (q := 0) rfl rfl) <| sq_end) fun a w hF hS => ?_
      refine wp_ifd hF rfl (fun hc7 => ?_) (fun hc7 => ?_)
      ·rw [Wi.top63] at hc7
       refine regS hF hS (aQ rfl <| aQ rfl <| aQ rfl <| sq_end) fun a w hF hS => ?_
       refine wp_ret ?_
       exact fn_ret (rs := [.tmp 2, .tmp 3, .tmp 4]) rfl hF hS (vs := [_, _, _]) ⟨rfl, rfl, rfl, trivial⟩ zQ zQ (Wi.gi_eq (Wi.gi_high hfl hK h8 hlt (by rw [← Wi.vj_K, ← hmK]; exact hc7)))
      ·rw [Wi.top63] at hc7
       have hmb := hc7
       have hfo := Wi.flipOf_or h
       rw [← hfl] at hfo
       refine wp_skip ?_
       refine hK22 _ _ ?_
       obtain ⟨hs0, hhs0, hS⟩ := hS.oh
       refine wp_cutx (γ := UInt64) (fun (m2 : UInt64) => [(7, vq m2)]) [(6, _)] (fun (m2 : UInt64) => hs0) (fun (m2 : UInt64) => sgn m2 = if fl = 0 then (m.toNat : Int) else -1 - (m.toNat : Int)) (hF.sub ⟨rfl, trivial⟩) hS ?_ ?_
       ·subst hhs0
        refine regS hF hS (mQ rfl <| q0 (q_gtb (q := 0) rfl rfl) <| sq_end) fun a w hF hS => ?_
        refine wp_ifd hF rfl (fun hc8 => ?_) (fun hc8 => ?_)
        ·refine reg hF hS (mQ rfl <| q0 (q_notq rfl) <| aQ rfl <| sq_end) fun a w hF hS => ?_
         refine ⟨(~~~m), ?_, hF.sub ⟨rfl, rfl, trivial⟩, ?_⟩
         ·rw [if_neg ((Wi.fl_pos hfo).1 hc8)]; exact Wi.sgn_not m hmb
         ·exact hS
        ·refine wp_skip ?_
         refine ⟨(m), ?_, hF.sub ⟨rfl, rfl, trivial⟩, ?_⟩
         ·rw [if_pos (Classical.not_not.1 (fun h9 => hc8 ((Wi.fl_pos hfo).2 h9)))]; exact Wi.sgn_small m hmb
         ·exact hS
       rintro m2 a w hfact hF hS
       subst hhs0; (try dsimp only at hfact hF hS)
       have hm2 := hfact
       replace hS : St _ [] [] _ := hS
       refine regS hF hS (mQ rfl <| q0 (q_cv_qi ty179 ty3 rfl) <| mQ rfl <| pQ rfl rfl <| aQ rfl <| aQ rfl <| aQ rfl <| sq_end) fun a w hF hS => ?_
       refine wp_ret ?_
       exact fn_ret (rs := [.tmp 2, .tmp 3, .tmp 4]) rfl hF hS (vs := [_, _, _]) ⟨rfl, rfl, rfl, trivial⟩ zQ zQ (by rw [hm2, hmK, Wi.vj_K]; exact Wi.gi_eq (Wi.gi_ok hfl hK h8 hlt h0 (by rw [← Wi.vj_K, ← hmK]; exact hmb)))
end
section
attribute [local irreducible] Wi.int Wi.bytes Wi.ints Wi.strs Wi.dgs Ls.encT Wi.getInt Wi.valBE Wi.vj
end
section
theorem fn59 : FnOk Tryz.prog 59 := fQ Tryz.func59
theorem fn98 : FnOk Tryz.prog 98 := fQ Tryz.func98
attribute [local irreducible] Wi.int Wi.bytes Wi.ints Wi.strs Wi.dgs Ls.encT Wi.getInt Wi.valBE Wi.vj Wi.cnt Wi.wcnt Wi.getBytes
theorem wcount_ct (v : Value) (xs : List UInt8) (s : Nat) (hs : 0 < s ∧ s ≤ 16) (w : World) (hb : Sl encB (ph w) v xs) : Ct Tryz.prog 98 [v, vi (s : Int)] w (fun r _ _ => r = .tuple [vi (Wi.wcnt s xs).1, vi (Wi.wcnt s xs).2.1, vi (Wi.wcnt s xs).2.2].toArray) := by
 refine fn_enter Tryz.func98 rfl Tryz.ntmps98 (Nat.le_of_ble_eq_true rfl) fun a hF hS => ?_
 have hbl := hb.1
 have hw1 := Wi.wcnt_1 s xs
 refine regS hF hS (aQ rfl <| aQ rfl <| aQ rfl <| sq_end) fun a w hF hS => ?_
 refine regS hF hS (mQ rfl <| q0 (q_call fn59 rfl (fun w hS => wgi_ct _ _ w (Sl.mono (hS.le zin0) hb)) (fun _ _ _ h => h)) <| mQ rfl <| q0 (q_extract rfl rfl) <| q0 (q_extract rfl rfl) <| q0 (q_extract rfl rfl) <| aQ rfl <| aQ rfl <| aQ rfl <| sq_end) fun a w hF hS => ?_
 obtain ⟨hs0, hhs0, hS⟩ := hS.oh
 refine wp_cutx (γ := Int) (fun (e : Int) => [(6, vi e)]) [(4, _), (5, _)] (fun (e : Int) => hs0) (fun (e : Int) => e = (Wi.wcnt s xs).2.2) (hF.sub ⟨rfl, rfl, trivial⟩) hS ?_ ?_
 ·subst hhs0
  refine wp_block ?_
  refine regS hF hS (mQ rfl <| q0 (q_nei rfl rfl) <| aQ rfl <| sq_end) fun a w hF hS => ?_
  refine wp_ifn hF rfl (fun hc1 => ?_) (fun hc1 => ?_)
  ·refine wp_skip ?_
   refine ⟨((Wi.getInt xs).2.2), ?_, hF.sub ⟨rfl, rfl, rfl, trivial⟩, ?_⟩
   ·unfold Wi.wcnt; rw [if_pos hc1]
   ·exact hS
  ·have hgp := Wi.getInt_pos (b := xs) (by omega)
   refine regS hF hS (mQ rfl <| q0 (q_lti rfl rfl) <| aQ rfl <| sq_end) fun a w hF hS => ?_
   refine wp_ifd hF rfl (fun hc2 => ?_) (fun hc2 => ?_)
   ·refine reg hF hS (aQ rfl <| sq_end) fun a w hF hS => ?_
    refine ⟨(2), ?_, hF.sub ⟨rfl, rfl, rfl, trivial⟩, ?_⟩
    ·unfold Wi.wcnt; rw [if_neg (by omega), if_pos hc2]
    ·exact hS
   ·refine k0 ?_; intro K5 hK5
    refine reg hF hS (mQ rfl <| mQ rfl <| q0 (q_len_sl ty25 hb rfl) <| mQ rfl <| dQ rfl rfl <| mQ rfl <| q0 (q_quoi rfl rfl (by omega)) <| q0 (q_gti rfl rfl) <| aQ rfl <| sq_end) fun a w hF hS => ?_
    refine hK5 _ _ ?_
    refine wp_ifd hF rfl (fun hc3 => ?_) (fun hc3 => ?_)
    ·refine reg hF hS (aQ rfl <| sq_end) fun a w hF hS => ?_
     refine ⟨(3), ?_, hF.sub ⟨rfl, rfl, rfl, trivial⟩, ?_⟩
     ·unfold Wi.wcnt; rw [if_neg (by omega), if_neg hc2, if_pos hc3]
     ·exact hS
    ·refine wp_skip ?_
     refine ⟨((Wi.getInt xs).2.2), ?_, hF.sub ⟨rfl, rfl, rfl, trivial⟩, ?_⟩
     ·unfold Wi.wcnt; rw [if_neg (by omega), if_neg hc2, if_neg hc3]
     ·exact hS
 rintro e a w hfact hF hS
 subst hhs0; (try dsimp only at hfact hF hS)
 have he := hfact
 replace hS : St _ [] [] _ := hS
 refine regS hF hS (mQ rfl <| mQ rfl <| mQ rfl <| aQ rfl <| aQ rfl <| aQ rfl <| sq_end) fun a w hF hS => ?_
 refine wp_ret ?_
 exact fn_ret (rs := [.tmp 4, .tmp 5, .tmp 6]) rfl hF hS (vs := [_, _, _]) ⟨rfl, rfl, rfl, trivial⟩ zQ zQ (Wi.wc_eq he hw1.1 hw1.2)
theorem wgb_ct (v : Value) (xs : List UInt8)  (w : World) (hb : Sl encB (ph w) v xs) : Ct Tryz.prog 60 [v] w (fun r _ _ => r = .tuple [vs (Wi.getBytes xs).1, vi (Wi.getBytes xs).2.1, vi (Wi.getBytes xs).2.2].toArray) := by
 refine fn_enter Tryz.func60 rfl Tryz.ntmps60 (Nat.le_of_ble_eq_true rfl) fun a hF hS => ?_
 have hbl := hb.1
 have hwc := Wi.wcnt_cnt 1 (by decide) xs
 refine regS hF hS (aQ rfl <| aQ rfl <| aQ rfl <| sq_end) fun a w hF hS => ?_
 refine regS hF hS (mQ rfl <| q0 (q_call fn98 rfl (fun w hS => wcount_ct _ _ 1 (by omega) w (Sl.mono (hS.le zin0) hb)) (fun _ _ _ h => h)) <| mQ rfl <| q0 (q_extract rfl rfl) <| q0 (q_extract rfl rfl) <| q0 (q_extract rfl rfl) <| aQ rfl <| aQ rfl <| aQ rfl <| sq_end) fun a w hF hS => ?_
 refine k0 ?_; intro K3 hK3
 refine regS hF hS (mQ rfl <| q0 (q_nei rfl rfl) <| sq_end) fun a w hF hS => ?_
 refine wp_ifn hF rfl (fun hc1 => ?_) (fun hc1 => ?_)
 ·refine k0 ?_; intro K5 hK5
  refine reg hF hS (mQ rfl <| aQ rfl <| aQ rfl <| aQ rfl <| sq_end) fun a w hF hS => ?_
  refine hK5 _ _ ?_
  refine wp_ret ?_
  exact fn_ret (rs := [.tmp 2, .tmp 3, .tmp 4]) rfl hF hS (vs := [_, _, _]) ⟨rfl, rfl, rfl, trivial⟩ zQ zQ (Wi.gb_err hwc.1 hc1)
 ·have hc1 : (Wi.wcnt 1 xs).2.2 = 0 := by omega
  obtain ⟨hk0, hk1, hk2, hk3⟩ := Wi.wcnt_ok (s := 1) (by decide) hc1
  refine wp_skip ?_
  refine hK3 _ _ ?_
  refine regS hF hS (mQ rfl <| mQ rfl <| mQ rfl <| mQ rfl <| pQ rfl rfl <| q0 (q_slsl_lo_hi ty25 ty5 hb rfl rfl rfl (by omega)) <| q0 (q_b2s_sl ty25 ty9 ty5 (Sl.cut hb (by omega)) zin0 rfl) <| mQ rfl <| mQ rfl <| pQ rfl rfl <| aQ rfl <| aQ rfl <| aQ rfl <| sq_end) fun a w hF hS => ?_
  refine wp_ret ?_
  exact fn_ret (rs := [.tmp 2, .tmp 3, .tmp 4]) rfl hF hS (vs := [_, _, _]) ⟨rfl, rfl, rfl, trivial⟩ zQ zQ (Wi.gb_ok hk0 hc1 ⟨hk1, by omega⟩)
end
section
theorem ty4 : Tf Tryz.prog 4 .bool 1 1 (Value.bool false) := ⟨Tryz.underlying4, by kernel_rfl⟩
theorem ty120 : Tf Tryz.prog 120 (.slice 126) 1 24 (Value.slice none 0 0) := ⟨Tryz.underlying120, by kernel_rfl⟩
theorem ty124 : Tf Tryz.prog 124 (.struct #[⟨ "blocks", 120, 0, false, "", "culprit/disk", 0⟩, ⟨ "pending", 121, 1, false, "", "culprit/disk", 24⟩, ⟨ "worn", 122, 2, false, "", "culprit/disk", 32⟩, ⟨ "off", 4, 3, false, "", "culprit/disk", 40⟩, ⟨ "left", 3, 4, false, "", "culprit/disk", 48⟩]) 5 56 (.agg ([Value.slice none 0 0] ++ [Value.map none, Value.map none] ++ [Value.bool false] ++ [Value.int .i64 0]).toArray) := ⟨Tryz.underlying124, by kernel_rfl⟩
abbrev DD := Dk.DOk 124 126
abbrev DDR := Dk.DR 124 126
theorem dcheck_ct (h : Dk.Hd) (S : Dk.Dsk) (i : Int) (w0 : World) (zsr : List PH) {r1 r2 r3 r4 : Res} (hD : DD h S r1 r2 r3 r4) : Cx Tryz.prog 66 [.pointer (some ⟨h.b, 0, none⟩), vi i] w0 zsr [r1, r2, r3, r4] (DDR h (S) (vi (Dk.check S i))) := by
 refine fn_enterx Tryz.func66 rfl Tryz.ntmps66 (Nat.le_of_ble_eq_true rfl) fun hsr a w hF hS => ?_
 replace hS := nt0_4 hS
 obtain ⟨l, e1, c1, m1, e2, c2, m2, hO, hl, hlr, hM1, hM2, hP, hW, rfl, rfl, rfl, rfl⟩ := hD
 have hlo := hO.lo
 have hhi := hO.hi
 have hlf := hO.lf
 have hlg := hO.lf2
 have hbl := Dk.bl_len S
 have hbs := Dk.bl_64 hO
 replace hS := nt0_4 hS
 refine regS hF hS (aQ rfl <| sq_end) fun a w hF hS => ?_
 refine k0 ?_; intro K2 hK2
 refine wp_block ?_
 refine regS hF hS (mQ rfl <| q0 (q_nilCheck rfl) <| q0 (q_fieldAddr ty124 rfl rfl (s' := 0) kQ) <| q0 (q_ld_blk1 ty4 0 rfl rfl rfl rfl) <| aQ rfl <| sq_end) fun a w hF hS => ?_
 refine wp_if hF rfl (fun hc1 => ?_) (fun hc1 => ?_)
 ·refine k0 ?_; intro K4 hK4
  refine reg hF hS (aQ rfl <| sq_end) fun a w hF hS => ?_
  refine hK4 _ _ ?_
  refine wp_ret ?_
  exact fn_retx (rs := [.tmp 4]) rfl hF hS (vs := [_]) ⟨rfl, trivial⟩ [] [_, _, _, _] sQ sQ (Dk.dr_of (S := S) ⟨rfl, rfl, _, _, _, _, rfl, ⟨l, e1, c1, m1, e2, c2, m2, hO, hl, hlr, hM1, hM2, hP, hW, rfl, rfl, rfl, rfl⟩⟩ (rfl) (by rw [Dk.check_off (by simpa using hc1)]))
 ·refine k0 ?_; intro K5 hK5
  refine regl ?_
  refine lQ hF hS (mQ rfl <| q0 (q_lti rfl rfl) <| mQ rfl <| sq_end) fun a w hF hS => ?_
  refine wpl_or 2 13 7 hF hS rfl rfl rfl rfl rfl (fun hg => have hg := (by first | exact of_decide_eq_false hg | exact hg); sq_go 13 rfl rfl rfl (q_move rfl) <| sq_go 13 rfl rfl rfl (q_move rfl) <| sq_go 13 rfl rfl rfl (q_nilCheck rfl) <| sq_go 13 rfl rfl rfl (q_fieldAddr ty124 rfl rfl (s' := 0) kQ) <| sq_go 13 rfl rfl rfl (q_ld_blk1 ty120 0 rfl rfl rfl rfl) <| sq_go 13 rfl rfl rfl (q_len_row ty120 1 rfl rfl) <| sq_go 13 rfl rfl rfl (q_gei rfl rfl) <| sq_end) rfl rfl fun a w hF hS => ?_
  refine lQ hF hS (aQ rfl <| sq_end) fun a w hF hS => ?_
  refine wpList_nil (hK5 _ _ ?_)
  refine wp_if hF rfl (fun hc2 => ?_) (fun hc2 => ?_)
  ·(try simp only [bS] at hc2)
   refine regS hF hS (aQ rfl <| sq_end) fun a w hF hS => ?_
   refine wp_ret ?_
   exact fn_retx (rs := [.tmp 4]) rfl hF hS (vs := [_]) ⟨rfl, trivial⟩ [] [_, _, _, _] sQ sQ (Dk.dr_of (S := S) ⟨rfl, rfl, _, _, _, _, rfl, ⟨l, e1, c1, m1, e2, c2, m2, hO, hl, hlr, hM1, hM2, hP, hW, rfl, rfl, rfl, rfl⟩⟩ (rfl) (by rw [Dk.check_out (by rw [hc1]; simp) (by omega)]))
  ·(try simp only [bS] at hc2)
   refine wp_skip ?_
   refine hK2 _ _ ?_
   refine regS hF hS (aQ rfl <| sq_end) fun a w hF hS => ?_
   refine wp_ret ?_
   exact fn_retx (rs := [.tmp 4]) rfl hF hS (vs := [_]) ⟨rfl, trivial⟩ [] [_, _, _, _] sQ sQ (Dk.dr_of (S := S) ⟨rfl, rfl, _, _, _, _, rfl, ⟨l, e1, c1, m1, e2, c2, m2, hO, hl, hlr, hM1, hM2, hP, hW, rfl, rfl, rfl, rfl⟩⟩ (rfl) (by rw [Dk.check_in (by rw [hc1]; simp) (by omega)]))
theorem dstep_ct (h : Dk.Hd) (S : Dk.Dsk) (w0 : World) (zsr : List PH) {r1 r2 r3 r4 : Res} (hD : DD h S r1 r2 r3 r4) : Cx Tryz.prog 182 [.pointer (some ⟨h.b, 0, none⟩)] w0 zsr [r1, r2, r3, r4] (DDR h ((Dk.step S).1) (vi (Dk.step S).2)) := by
 refine fn_enterx Tryz.func182 rfl Tryz.ntmps182 (Nat.le_of_ble_eq_true rfl) fun hsr a w hF hS => ?_
 replace hS := nt0_4 hS
 obtain ⟨l, e1, c1, m1, e2, c2, m2, hO, hl, hlr, hM1, hM2, hP, hW, rfl, rfl, rfl, rfl⟩ := hD
 have hlo := hO.lo
 have hhi := hO.hi
 have hlf := hO.lf
 have hlg := hO.lf2
 have hbl := Dk.bl_len S
 have hbs := Dk.bl_64 hO
 replace hS := nt0_4 hS
 refine regS hF hS (aQ rfl <| sq_end) fun a w hF hS => ?_
 refine k0 ?_; intro K2 hK2
 refine wp_block ?_
 refine regS hF hS (mQ rfl <| q0 (q_nilCheck rfl) <| q0 (q_fieldAddr ty124 rfl rfl (s' := 0) kQ) <| q0 (q_ld_blk1 ty3 0 rfl rfl rfl rfl) <| q0 (q_eqi rfl rfl) <| aQ rfl <| sq_end) fun a w hF hS => ?_
 refine wp_ifd hF rfl (fun hc1 => ?_) (fun hc1 => ?_)
 ·refine k0 ?_; intro K4 hK4
  refine regl ?_
  refine lQ hF hS (mQ rfl <| q0 (q_nilCheck rfl) <| q0 (q_fieldAddr ty124 rfl rfl (s' := 0) kQ) <| sq_end) fun a w hF hS => ?_
  refine eQ hF hS rfl (ef_store1 ty4 0 rfl rfl rfl rfl (by simp)) ?_
  rintro _ _ _ a w ⟨rfl, rfl, rfl⟩ hF hS
  replace hS : St _ (_) (.blk _ _ ([_, _, _, _, _].set 3 _) :: _ :: _ :: _ :: _) _ := hS
  simp only [List.set_cons_zero, List.set_cons_succ] at hS
  replace hS := nt0_4 hS
  refine wpList_nil (hK4 _ _ ?_)
  refine regS hF hS (aQ rfl <| sq_end) fun a w hF hS => ?_
  refine wp_ret ?_
  exact fn_retx (rs := [.tmp 2]) rfl hF hS (vs := [_]) ⟨rfl, trivial⟩ [] [_, _, _, _] sQ sQ (Dk.dr_of (S := ⟨S.s, true, S.left⟩) ⟨rfl, rfl, _, _, _, _, rfl, ⟨l, e1, c1, m1, e2, c2, m2, ⟨hO.sec, hO.lo, hO.hi, hO.lf, hO.lf2⟩, hl, hlr, hM1, hM2, hP, hW, rfl, rfl, rfl, rfl⟩⟩ (by rw [Dk.step_0 (by omega)]) (by rw [Dk.step_0 (by omega)]))
 ·refine k0 ?_; intro K6 hK6
  refine reg hF hS (mQ rfl <| q0 (q_nilCheck rfl) <| q0 (q_fieldAddr ty124 rfl rfl (s' := 0) kQ) <| q0 (q_ld_blk1 ty3 0 rfl rfl rfl rfl) <| q0 (q_gti rfl rfl) <| aQ rfl <| sq_end) fun a w hF hS => ?_
  refine hK6 _ _ ?_
  refine wp_ifd hF rfl (fun hc2 => ?_) (fun hc2 => ?_)
  ·refine regl ?_
   refine lQ hF hS (mQ rfl <| q0 (q_nilCheck rfl) <| q0 (q_fieldAddr ty124 rfl rfl (s' := 0) kQ) <| q0 (q_ld_blk1 ty3 0 rfl rfl rfl rfl) <| dQ rfl rfl <| q0 (q_nilCheck rfl) <| q0 (q_fieldAddr ty124 rfl rfl (s' := 0) kQ) <| sq_end) fun a w hF hS => ?_
   refine eQ hF hS rfl (ef_store1 ty3 0 rfl rfl rfl rfl (by simp)) ?_
   rintro _ _ _ a w ⟨rfl, rfl, rfl⟩ hF hS
   replace hS : St _ (_) (.blk _ _ ([_, _, _, _, _].set 4 _) :: _ :: _ :: _ :: _) _ := hS
   simp only [List.set_cons_zero, List.set_cons_succ] at hS
   replace hS := nt0_4 hS
   refine wpList_nil (hK2 _ _ ?_)
   refine regS hF hS (aQ rfl <| sq_end) fun a w hF hS => ?_
   refine wp_ret ?_
   exact fn_retx (rs := [.tmp 2]) rfl hF hS (vs := [_]) ⟨rfl, trivial⟩ [] [_, _, _, _] sQ sQ (Dk.dr_of (S := ⟨S.s, S.off, S.left - 1⟩) ⟨rfl, rfl, _, _, _, _, rfl, ⟨(l - 1), e1, c1, m1, e2, c2, m2, ⟨hO.sec, hO.lo, hO.hi, (by dsimp only; omega), (by dsimp only; omega)⟩, (by dsimp only; omega), (by omega), hM1, hM2, hP, hW, rfl, rfl, rfl, rfl⟩⟩ (by rw [Dk.step_1 (by omega)]) (by rw [Dk.step_1 (by omega)]))
  ·refine wp_skip ?_
   refine hK2 _ _ ?_
   refine regS hF hS (aQ rfl <| sq_end) fun a w hF hS => ?_
   refine wp_ret ?_
   exact fn_retx (rs := [.tmp 2]) rfl hF hS (vs := [_]) ⟨rfl, trivial⟩ [] [_, _, _, _] sQ sQ (Dk.dr_of (S := S) ⟨rfl, rfl, _, _, _, _, rfl, ⟨l, e1, c1, m1, e2, c2, m2, hO, hl, hlr, hM1, hM2, hP, hW, rfl, rfl, rfl, rfl⟩⟩ (by rw [Dk.step_2 (by omega)]) (by rw [Dk.step_2 (by omega)]))
theorem dlen_ct (h : Dk.Hd) (S : Dk.Dsk) (w0 : World) (zsr : List PH) {r1 r2 r3 r4 : Res} (hD : DD h S r1 r2 r3 r4) : Cx Tryz.prog 93 [.pointer (some ⟨h.b, 0, none⟩)] w0 zsr [r1, r2, r3, r4] (DDR h (S) (vi (S.s.length : Int))) := by
 refine fn_enterx Tryz.func93 rfl Tryz.ntmps93 (Nat.le_of_ble_eq_true rfl) fun hsr a w hF hS => ?_
 replace hS := nt0_4 hS
 obtain ⟨l, e1, c1, m1, e2, c2, m2, hO, hl, hlr, hM1, hM2, hP, hW, rfl, rfl, rfl, rfl⟩ := hD
 have hlo := hO.lo
 have hhi := hO.hi
 have hlf := hO.lf
 have hlg := hO.lf2
 have hbl := Dk.bl_len S
 have hbs := Dk.bl_64 hO
 replace hS := nt0_4 hS
 refine regS hF hS (aQ rfl <| sq_end) fun a w hF hS => ?_
 refine regS hF hS (mQ rfl <| q0 (q_nilCheck rfl) <| q0 (q_fieldAddr ty124 rfl rfl (s' := 0) kQ) <| q0 (q_ld_blk1 ty120 0 rfl rfl rfl rfl) <| q0 (q_len_row ty120 1 rfl rfl) <| aQ rfl <| sq_end) fun a w hF hS => ?_
 refine wp_ret ?_
 exact fn_retx (rs := [.tmp 2]) rfl hF hS (vs := [_]) ⟨rfl, trivial⟩ [] [_, _, _, _] sQ sQ (Dk.dr_of (S := S) ⟨rfl, rfl, _, _, _, _, rfl, ⟨l, e1, c1, m1, e2, c2, m2, hO, hl, hlr, hM1, hM2, hP, hW, rfl, rfl, rfl, rfl⟩⟩ (rfl) (rfl))
theorem dtrip_ct (h : Dk.Hd) (S : Dk.Dsk) (n : Int) (hn : -9223372036854775808 ≤ n ∧ n ≤ 9223372036854775807) (w0 : World) (zsr : List PH) {r1 r2 r3 r4 : Res} (hD : DD h S r1 r2 r3 r4) : Cx Tryz.prog 46 [.pointer (some ⟨h.b, 0, none⟩), vi n] w0 zsr [r1, r2, r3, r4] (DDR h (Dk.trip S n) (.tuple ([] : List Value).toArray)) := by
 refine fn_enterx Tryz.func46 rfl Tryz.ntmps46 (Nat.le_of_ble_eq_true rfl) fun hsr a w hF hS => ?_
 replace hS := nt0_4 hS
 obtain ⟨l, e1, c1, m1, e2, c2, m2, hO, hl, hlr, hM1, hM2, hP, hW, rfl, rfl, rfl, rfl⟩ := hD
 have hlo := hO.lo
 have hhi := hO.hi
 have hlf := hO.lf
 have hlg := hO.lf2
 have hbl := Dk.bl_len S
 have hbs := Dk.bl_64 hO
 replace hS := nt0_4 hS
 refine regl ?_
 refine lQ hF hS (mQ rfl <| mQ rfl <| q0 (q_nilCheck rfl) <| q0 (q_fieldAddr ty124 rfl rfl (s' := 0) kQ) <| sq_end) fun a w hF hS => ?_
 refine eQ hF hS rfl (ef_store1 ty3 0 rfl rfl rfl rfl (by simp)) ?_
 rintro _ _ _ a w ⟨rfl, rfl, rfl⟩ hF hS
 replace hS : St _ (_) (.blk _ _ ([_, _, _, _, _].set 4 _) :: _ :: _ :: _ :: _) _ := hS
 simp only [List.set_cons_zero, List.set_cons_succ] at hS
 replace hS := nt0_4 hS
 refine wpList_nil ?_
 -- falls off the end
 exact fn_retx (rs := []) rfl hF hS (vs := []) trivial [] [_, _, _, _] sQ sQ (Dk.dr_of (S := Dk.trip S n) ⟨rfl, rfl, _, _, _, _, rfl, ⟨n, e1, c1, m1, e2, c2, m2, (Dk.ok_trip hO hn.2), rfl, hn.1, hM1, hM2, hP, hW, rfl, rfl, rfl, rfl⟩⟩ (rfl) (rfl))
end
section
theorem ty121 : Tf Tryz.prog 121 (.map 3 126) 1 8 (Value.map none) := ⟨Tryz.underlying121, by kernel_rfl⟩
theorem ty126 : Tf Tryz.prog 126 (.array 64 5) 64 64 (.agg (List.replicate 64 (Value.int .u8 0)).toArray) := ⟨Tryz.underlying126, by kernel_rfl⟩
theorem fn66 : FnOk Tryz.prog 66 := fQ Tryz.func66
theorem fn182 : FnOk Tryz.prog 182 := fQ Tryz.func182
theorem dread_ct (h : Dk.Hd) (S : Dk.Dsk) (i : Int) (hi : -9223372036854775808 ≤ i ∧ i ≤ 9223372036854775807) (w0 : World) (zsr : List PH) {r1 r2 r3 r4 : Res} (hD : DD h S r1 r2 r3 r4) : Cx Tryz.prog 29 [.pointer (some ⟨h.b, 0, none⟩), vi i] w0 zsr [r1, r2, r3, r4] (DDR h (S) (.tuple [vs (Dk.read S i).1, vi (Dk.read S i).2].toArray)) := by
 refine fn_enterx Tryz.func29 rfl Tryz.ntmps29 (Nat.le_of_ble_eq_true rfl) fun hsr a w hF hS => ?_
 replace hS := nt0_4 hS
 refine regS hF hS (aQ rfl <| aQ rfl <| sq_end) fun a w hF hS => ?_
 refine k0 ?_; intro K2 hK2
 refine reglS fun K3 hK3 => ?_
 refine lQ hF hS (mQ rfl <| mQ rfl <| sq_end) fun a w hF hS => ?_
 refine eQ hF hS rfl (ef_callx fn66 rfl (List.Perm.refl _) (by exact (dcheck_ct _ _ _ _ _  hD))) ?_
 rintro _ _ _ a w ⟨_, _, rfl, rfl, ⟨rfl, rfl, qa2, qb3, qc4, qd5, rfl, hD6⟩⟩ hF hS
 replace hS := nt0_4 hS
 refine lQ hF hS (aQ rfl <| sq_end) fun a w hF hS => ?_
 refine wpList_nil (hK3 _ _ ?_)
 refine regS hF hS (mQ rfl <| q0 (q_nei rfl rfl) <| sq_end) fun a w hF hS => ?_
 refine wp_ifn hF rfl (fun hc1 => ?_) (fun hc1 => ?_)
 ·refine k0 ?_; intro K5 hK5
  refine reg hF hS (mQ rfl <| aQ rfl <| aQ rfl <| sq_end) fun a w hF hS => ?_
  refine hK5 _ _ ?_
  refine wp_ret ?_
  exact fn_retx (rs := [.tmp 4, .tmp 5]) rfl hF hS (vs := [_, _]) ⟨rfl, rfl, trivial⟩ [] [_, _, _, _] sQ sQ (Dk.dr_of (S := S) ⟨rfl, rfl, _, _, _, _, rfl, hD6⟩ (rfl) (by rw [Dk.read_bad hc1]))
 ·have hc0 : Dk.check S i = 0 := by omega
  obtain ⟨hof, hir⟩ := Dk.check_0 hc0
  obtain ⟨l, e1, c1, m1, e2, c2, m2, hO, hl, hlr, hM1, hM2, hP, hW, rfl, rfl, rfl, rfl⟩ := hD6
  have hlo := hO.lo
  have hhi := hO.hi
  have hlf := hO.lf
  have hlg := hO.lf2
  have hbl := Dk.bl_len S
  have hbs := Dk.bl_64 hO
  replace hS := nt0_4 hS
  have hpg := Dk.pget_len hO hir
  refine wp_skip ?_
  refine hK2 _ _ ?_
  refine k0 ?_; intro K6 hK6
  refine reglS fun K7 hK7 => ?_
  refine lQ hF hS (mQ rfl <| q0 (q_nilCheck rfl) <| q0 (q_fieldAddr ty124 rfl rfl (s' := 0) kQ) <| q0 (q_ld_blk1 ty121 0 rfl rfl rfl rfl) <| mQ rfl <| q0 (q_lookupk2 ty121 ty126 (key_I ty3) 2 rfl rfl rfl hM1.1 (fun _ _ => trivial) trivial (Dk.pend_get hP hir) (Dk.pend_is hP hir)) <| mQ rfl <| q0 (q_extract rfl rfl) <| q0 (q_extract rfl rfl) <| sq_end) fun a w hF hS => ?_
  refine eQ hF hS rfl (ef_allocA ty126) ?_
  rintro _ _ _ a w ⟨b7, rfl, rfl, rfl⟩ hF hS
  rw [show List.replicate 64 (Value.int .u8 0) = (List.replicate 64 (0 : UInt8)).map vb from by rw [List.map_replicate] <;> rfl] at hS
  refine eQ hF hS rfl (ef_storeW ty126 0 rfl rfl rfl rfl bQ oQ bQ) ?_
  rintro _ _ _ a w ⟨rfl, rfl, rfl⟩ hF hS
  replace hS := nt0_5 hS
  refine lQ hF hS (aQ rfl <| sq_end) fun a w hF hS => ?_
  refine wpList_nil (hK7 _ _ ?_)
  refine regS hF hS (mQ rfl <| sq_end) fun a w hF hS => ?_
  refine wp_if hF rfl (fun hc2 => ?_) (fun hc2 => ?_)
  ·refine k0 ?_; intro K9 hK9
   refine reg hF hS (q0 (q_sla ty126 ty5 rfl) <| q0 (q_b2s_blkM ty25 ty9 ty5 0 rfl rfl bQ) <| aQ rfl <| aQ rfl <| sq_end) fun a w hF hS => ?_
   refine hK9 _ _ ?_
   refine wp_ret ?_
   replace hS := hS.perm (.swap _ _ _)
   replace hS := hS.perm (.cons _ (.swap _ _ _))
   replace hS := hS.perm P2_2
   replace hS := hS.perm P3_3
   exact fn_retx (rs := [.tmp 4, .tmp 5]) rfl hF hS (vs := [_, _]) ⟨rfl, rfl, trivial⟩ [] [_, _, _, _] sQ (sQ.n.k.k.k.k) (Dk.dr_of (S := S) ⟨rfl, rfl, _, _, _, _, rfl, ⟨l, e1, c1, m1, e2, c2, m2, hO, hl, hlr, hM1, hM2, hP, hW, rfl, rfl, rfl, rfl⟩⟩ (rfl) (by rw [Dk.read_nx hc0 hc2, Dk.pget_t hc2]))
  ·refine wp_skip ?_
   refine hK6 _ _ ?_
   refine regS hF hS (mQ rfl <| q0 (q_nilCheck rfl) <| q0 (q_fieldAddr ty124 rfl rfl (s' := 0) kQ) <| q0 (q_ld_blk1 ty120 1 rfl rfl rfl rfl) <| mQ rfl <| q0 (q_idx_row ty120 ty126 2 rfl rfl rfl (by omega)) <| q0 (q_slE ty126 ty5 2 rfl rfl (by omega)) <| q0 (q_b2s_rowSl ty25 ty9 ty5 2 rfl (Dk.bl_len S).symm (Dk.bl_64 hO) rfl (by omega)) <| aQ rfl <| aQ rfl <| sq_end) fun a w hF hS => ?_
   refine wp_ret ?_
   replace hS := hS.perm (.swap _ _ _)
   replace hS := hS.perm (.cons _ (.swap _ _ _))
   replace hS := hS.perm P2_2
   replace hS := hS.perm P3_3
   exact fn_retx (rs := [.tmp 4, .tmp 5]) rfl hF hS (vs := [_, _]) ⟨rfl, rfl, trivial⟩ [] [_, _, _, _] sQ (sQ.n.k.k.k.k) (Dk.dr_of (S := S) ⟨rfl, rfl, _, _, _, _, rfl, ⟨l, e1, c1, m1, e2, c2, m2, hO, hl, hlr, hM1, hM2, hP, hW, rfl, rfl, rfl, rfl⟩⟩ (rfl) (by rw [Dk.read_tx hc0 (by rw [hc2]; simp), Dk.bl_at hir]))
theorem dwrite_ct (h : Dk.Hd) (S : Dk.Dsk) (i : Int) (hi : -9223372036854775808 ≤ i ∧ i ≤ 9223372036854775807) (t : List UInt8) (w0 : World) (zsr : List PH) {r1 r2 r3 r4 : Res} (hD : DD h S r1 r2 r3 r4) : Cx Tryz.prog 150 [.pointer (some ⟨h.b, 0, none⟩), vi i, vs t] w0 zsr [r1, r2, r3, r4] (DDR h ((Dk.write S i t).1) (vi (Dk.write S i t).2)) := by
 refine fn_enterx Tryz.func150 rfl Tryz.ntmps150 (Nat.le_of_ble_eq_true rfl) fun hsr a w hF hS => ?_
 replace hS := nt0_4 hS
 refine regS hF hS (aQ rfl <| sq_end) fun a w hF hS => ?_
 refine k0 ?_; intro K2 hK2
 refine reglS fun K3 hK3 => ?_
 refine lQ hF hS (mQ rfl <| mQ rfl <| sq_end) fun a w hF hS => ?_
 refine eQ hF hS rfl (ef_callx fn66 rfl (List.Perm.refl _) (by exact (dcheck_ct _ _ _ _ _  hD))) ?_
 rintro _ _ _ a w ⟨_, _, rfl, rfl, ⟨rfl, rfl, qa2, qb3, qc4, qd5, rfl, hD6⟩⟩ hF hS
 replace hS := nt0_4 hS
 refine lQ hF hS (aQ rfl <| sq_end) fun a w hF hS => ?_
 refine wpList_nil (hK3 _ _ ?_)
 refine regS hF hS (mQ rfl <| q0 (q_nei rfl rfl) <| sq_end) fun a w hF hS => ?_
 refine wp_ifn hF rfl (fun hc1 => ?_) (fun hc1 => ?_)
 ·refine k0 ?_; intro K5 hK5
  refine reg hF hS (mQ rfl <| aQ rfl <| sq_end) fun a w hF hS => ?_
  refine hK5 _ _ ?_
  refine wp_ret ?_
  exact fn_retx (rs := [.tmp 6]) rfl hF hS (vs := [_]) ⟨rfl, trivial⟩ [] [_, _, _, _] sQ sQ (Dk.dr_of (S := S) ⟨rfl, rfl, _, _, _, _, rfl, hD6⟩ (by rw [Dk.write_1 hc1]) (by rw [Dk.write_1 hc1]))
 ·have hc0 : Dk.check S i = 0 := by omega
  obtain ⟨hof, hir⟩ := Dk.check_0 hc0
  refine wp_skip ?_
  refine hK2 _ _ ?_
  refine k0 ?_; intro K6 hK6
  refine regS hF hS (mQ rfl <| q0 (q_len_s ty9 rfl) <| q0 (q_nei rfl rfl) <| sq_end) fun a w hF hS => ?_
  refine wp_ifn hF rfl (fun hc2 => ?_) (fun hc2 => ?_)
  ·refine k0 ?_; intro K8 hK8
   refine reg hF hS (aQ rfl <| sq_end) fun a w hF hS => ?_
   refine hK8 _ _ ?_
   refine wp_ret ?_
   exact fn_retx (rs := [.tmp 6]) rfl hF hS (vs := [_]) ⟨rfl, trivial⟩ [] [_, _, _, _] sQ sQ (Dk.dr_of (S := S) ⟨rfl, rfl, _, _, _, _, rfl, hD6⟩ (by rw [Dk.write_2 hc0 (by omega)]) (by rw [Dk.write_2 hc0 (by omega)]))
  ·have h64 : t.length = 64 := by omega
   refine wp_skip ?_
   refine hK6 _ _ ?_
   refine k0 ?_; intro K9 hK9
   refine reglS fun K10 hK10 => ?_
   refine lQ hF hS (mQ rfl <| sq_end) fun a w hF hS => ?_
   refine eQ hF hS rfl (ef_callx fn182 rfl (List.Perm.refl _) (by exact (dstep_ct _ _ _ _  hD6))) ?_
   rintro _ _ _ a w ⟨_, _, rfl, rfl, ⟨rfl, rfl, qa8, qb9, qc10, qd11, rfl, hD12⟩⟩ hF hS
   replace hS := nt0_4 hS
   refine lQ hF hS (aQ rfl <| sq_end) fun a w hF hS => ?_
   refine wpList_nil (hK10 _ _ ?_)
   refine regS hF hS (mQ rfl <| q0 (q_nei rfl rfl) <| sq_end) fun a w hF hS => ?_
   refine wp_ifn hF rfl (fun hc3 => ?_) (fun hc3 => ?_)
   ·refine k0 ?_; intro K12 hK12
    refine reg hF hS (mQ rfl <| aQ rfl <| sq_end) fun a w hF hS => ?_
    refine hK12 _ _ ?_
    refine wp_ret ?_
    exact fn_retx (rs := [.tmp 6]) rfl hF hS (vs := [_]) ⟨rfl, trivial⟩ [] [_, _, _, _] sQ sQ (Dk.dr_of (S := (Dk.step S).1) ⟨rfl, rfl, _, _, _, _, rfl, hD12⟩ (by rw [Dk.write_3 hc0 h64 hc3]) (by rw [Dk.write_3 hc0 h64 hc3]))
   ·have hs0 : (Dk.step S).2 = 0 := by omega
    have hir2 : 0 ≤ i ∧ i < (Dk.step S).1.s.length := by rw [Dk.step_s]; exact hir
    obtain ⟨l, e1, c1, m1, e2, c2, m2, hO, hl, hlr, hM1, hM2, hP, hW, rfl, rfl, rfl, rfl⟩ := hD12
    have hlo := hO.lo
    have hhi := hO.hi
    have hlf := hO.lf
    have hlg := hO.lf2
    have hbl := Dk.bl_len (Dk.step S).1
    have hbs := Dk.bl_64 hO
    replace hS := nt0_4 hS
    refine wp_skip ?_
    refine hK9 _ _ ?_
    refine k0 ?_; intro K13 hK13
    revert hS; revert hF; apply regJ (J := J4 (α0 := Value) (α1 := PH) (α2 := List MapEntry) (α3 := Nat) 32 _ _ _ _ _) #[false, false, false, false, false, false, false, false, false, false] 10 mixed rfl rfl
    ·intro w hF hS
     refine tQ 0 rfl hF (hS.keep sQ (sQ.n.n.n.n)) (q_move rfl) fun a hF => ?_
     refine tQ 1 rfl hF (hS.keep sQ (sQ.n.n.n.n)) (q_nilCheck rfl) fun a hF => ?_
     refine tQ 2 rfl hF (hS.keep sQ (sQ.n.n.n.n)) (q_fieldAddr ty124 rfl rfl (s' := 0) kQ) fun a hF => ?_
     refine tQ 3 rfl hF (hS.keep sQ (sQ.n.n.n.k)) (q_ld_blk1 ty121 0 rfl rfl rfl rfl) fun a hF => ?_
     refine tQ 4 rfl hF (hS.keep sQ (sQ.n.n.n.n)) (q_move rfl) fun a hF => ?_
     refine tQ 5 rfl hF (hS.keep sQ (sQ.n.n.n.n)) (q_move rfl) fun a hF => ?_
     refine gQ 6 rfl rfl hF hS rfl (ef_s2b ty9 ty25 ty5 rfl (by omega)) ?_
     rintro v_9_6 _ _ a w ⟨z_9_6, rfl, rfl, hz_9_6⟩ hF hS
     refine ⟨⟨iQ, .inr (hS.keep (sQ.n) (sQ.n.n.n.n)), .inr (hS.keep (sQ.n) (sQ.n.n.n.k)), .inr (hS.keep (sQ.n) (sQ.n.n.n.n)), .inr (hS.keep (sQ.n) (sQ.n.n.n.n)), .inr (hS.keep (sQ.n) (sQ.n.n.n.n)), trivial⟩, ?_⟩
     refine tQ 7 rfl hF (hS.keep sQ (sQ.n.n.n.n)) (q_s2ap_sl ty126 hz_9_6 rfl bQ (by decide)) fun a hF => ?_
     refine tQ 8 rfl hF (hS.keep sQ (sQ.n.n.n.n)) (q_ld_B16 ty126 hz_9_6 (.inr (by simp)) rfl rfl bQ (by decide)) fun a hF => ?_
     refine gQ 9 rfl rfl hF hS rfl (ef_mapsetT ty121 (key_I ty3) 2 rfl rfl rfl rfl hM1 (fun _ _ => trivial) trivial) ?_
     rintro _ _ _ a w ⟨es9, c9, hM9, rfl, rfl, rfl⟩ hF hS
     replace hS := nt1_4 hS
     refine ⟨⟨iQ, iQ, iQ, iQ, iQ, iQ, iQ, iQ, trivial⟩, ?_⟩
     exact goW_done kQ (j4_mk v_9_6 z_9_6 es9 c9 ((And.intro hz_9_6 (And.intro hM9 trivial))) (hF.sub (L' := []) trivial) hS)
    rintro a w ⟨v_9_6, z_9_6, es9, c9, ⟨hz_9_6, hM9, -⟩, hF, hS⟩
    (try dsimp only at hF hS)
    refine hK13 _ _ ?_
    refine regS hF hS (aQ rfl <| sq_end) fun a w hF hS => ?_
    refine wp_ret ?_
    exact fn_retx (rs := [.tmp 6]) rfl hF hS (vs := [_]) ⟨rfl, trivial⟩ [] [_, _, _, _] (sQ.n) sQ (Dk.dr_of (S := Dk.mark (Dk.step S).1 i t) ⟨rfl, rfl, _, _, _, _, rfl, ⟨l, _, _, _, e2, c2, m2, (Dk.ok_mark hO hir2 h64), hl, hlr, hM9, hM2, (hP.put (Dk.pend_mark hir2 t)), (hW.eq (Dk.wrn_put hir2 rfl)), rfl, (by rw [Dk.mark_bl hir2, Dk.mark_len]), rfl, rfl⟩⟩ (by rw [Dk.write_4 hc0 h64 hs0]) (by rw [Dk.write_4 hc0 h64 hs0]))
end
section
theorem ty122 : Tf Tryz.prog 122 (.map 3 4) 1 8 (Value.map none) := ⟨Tryz.underlying122, by kernel_rfl⟩
theorem dsettle_ct (h : Dk.Hd) (S : Dk.Dsk) (i p : Int) (hi : 0 ≤ i ∧ i < S.s.length) (hd : (S.at i).dt = true) (hp : -9223372036854775808 ≤ p ∧ p ≤ 9223372036854775807) (w0 : World) (zsr : List PH) {r1 r2 r3 r4 : Res} (hD : DD h S r1 r2 r3 r4) : Cx Tryz.prog 89 [.pointer (some ⟨h.b, 0, none⟩), vi i, vi p] w0 zsr [r1, r2, r3, r4] (DDR h (S.put i (Dk.settle1 (S.at i) p)) (.tuple ([] : List Value).toArray)) := by
 refine fn_enterx Tryz.func89 rfl Tryz.ntmps89 (Nat.le_of_ble_eq_true rfl) fun hsr a w hF hS => ?_
 replace hS := nt0_4 hS
 obtain ⟨l, e1, c1, m1, e2, c2, m2, hO, hl, hlr, hM1, hM2, hP, hW, rfl, rfl, rfl, rfl⟩ := hD
 have hlo := hO.lo
 have hhi := hO.hi
 have hlf := hO.lf
 have hlg := hO.lf2
 have hbl := Dk.bl_len S
 have hbs := Dk.bl_64 hO
 replace hS := nt0_4 hS
 have hpg := Dk.pget_len hO hi
 have hbg : ((Dk.bl S).getD i.toNat []).length = 64 := by rw [Dk.bl_at hi]; exact (hO.at hi).1
 refine reglS fun K1 hK1 => ?_
 refine lQ hF hS (mQ rfl <| q0 (q_nilCheck rfl) <| q0 (q_fieldAddr ty124 rfl rfl (s' := 0) kQ) <| q0 (q_ld_blk1 ty121 0 rfl rfl rfl rfl) <| mQ rfl <| q0 (q_lookupD ty121 ty126 (key_I ty3) 2 rfl rfl rfl hM1.1 (fun _ _ => trivial) trivial (Dk.pend_get hP hi)) <| sq_end) fun a w hF hS => ?_
 refine eQ hF hS rfl (ef_allocA ty126) ?_
 rintro _ _ _ a w ⟨b1, rfl, rfl, rfl⟩ hF hS
 rw [show List.replicate 64 (Value.int .u8 0) = (List.replicate 64 (0 : UInt8)).map vb from by rw [List.map_replicate] <;> rfl] at hS
 refine eQ hF hS rfl (ef_storeW ty126 0 rfl rfl rfl rfl bQ oQ bQ) ?_
 rintro _ _ _ a w ⟨rfl, rfl, rfl⟩ hF hS
 replace hS := nt0_5 hS
 refine wpList_nil (hK1 _ _ ?_)
 refine reglS fun K2 hK2 => ?_
 refine lQ hF hS (mQ rfl <| q0 (q_nilCheck rfl) <| q0 (q_fieldAddr ty124 rfl rfl (s' := 0) kQ) <| q0 (q_ld_blk1 ty121 1 rfl rfl rfl rfl) <| mQ rfl <| sq_end) fun a w hF hS => ?_
 refine eQ hF hS rfl (ef_mapdelT ty121 (key_I ty3) 3 rfl rfl rfl hM1 (fun _ _ => trivial) trivial) ?_
 rintro _ _ _ a w ⟨es9, c9, hM9, rfl, rfl⟩ hF hS
 replace hS := nt0_5 hS
 refine wpList_nil (hK2 _ _ ?_)
 refine k0 ?_; intro K3 hK3
 refine regq mixed kQ hS ?_
 refine wpq_seg hF (mQ rfl <| q0 (q_nilCheck rfl) <| q0 (q_fieldAddr ty124 rfl rfl (s' := 0) kQ) <| q0 (q_ld_blk1 ty122 1 rfl rfl rfl rfl) <| mQ rfl <| q0 (q_lookupD ty122 ty4 (key_I ty3) 4 rfl rfl rfl hM2.1 (fun _ _ => trivial) trivial (Dk.wrn_get hW hi)) <| q0 (q_not rfl) <| mQ rfl <| sq_end) fun a hF => ?_
 refine wpq_and 7 25 9 hF rfl rfl rfl rfl rfl (fun hg => have hg := hg; sq_go 25 rfl rfl rfl (q_ld_blkW ty126 0 rfl rfl bQ rfl) <| sq_go 25 rfl rfl rfl (q_move rfl) <| sq_go 25 rfl rfl rfl (q_nilCheck rfl) <| sq_go 25 rfl rfl rfl (q_fieldAddr ty124 rfl rfl (s' := 0) kQ) <| sq_go 25 rfl rfl rfl (q_ld_blk1 ty120 1 rfl rfl rfl rfl) <| sq_go 25 rfl rfl rfl (q_move rfl) <| sq_go 25 rfl rfl rfl (q_idx_row ty120 ty126 2 rfl rfl rfl (by omega)) <| sq_go 25 rfl rfl rfl (q_ld_rowA ty126 2 rfl (Dk.bl_64 hO) rfl (by omega) (by decide) rfl) <| sq_go 25 rfl rfl rfl (q_neAB ty126 ty5 kQ rfl rfl bQ bQ) <| sq_end) rfl rfl fun a hF => ?_
 refine wpq_nil ?_
 clear hS; intro w hS
 refine hK3 _ _ ?_
 refine wp_if hF rfl (fun hc1 => ?_) (fun hc1 => ?_)
 ·(try simp only [bS] at hc1)
  refine regt 11 mixed kQ hF hS (mQ rfl <| q0 (q_nilCheck rfl) <| q0 (q_fieldAddr ty124 rfl rfl (s' := 0) kQ) <| q0 (q_ld_blk1 ty120 1 rfl rfl rfl rfl) <| mQ rfl <| q0 (q_idx_row ty120 ty126 2 rfl rfl rfl (by omega)) <| mQ rfl <| q0 (q_min rfl rfl) <| q0 (q_max rfl rfl) <| q0 (q_slE_hi ty126 ty5 2 rfl rfl rfl (by omega) (by omega)) <| q0 (q_sla ty126 ty5 rfl) <| sq_end) fun a w hF hS => ?_
  refine eQ hF hS rfl (ef_copy_rowSl ty25 ty5 2 0 rfl rfl hbs hbl.symm rfl rfl (by omega) (by omega) hpg) ?_
  rintro _ _ _ a w ⟨rfl, rfl, rfl⟩ hF hS
  replace hS := nt0_5 hS
  refine wpList_nil ?_
  -- falls off the end
  replace hS := hS.perm (.swap _ _ _)
  replace hS := hS.perm (.cons _ (.swap _ _ _))
  replace hS := hS.perm P2_2
  replace hS := hS.perm P3_3
  exact fn_retx (rs := []) rfl hF hS (vs := []) trivial [] [_, _, _, _] sQ (sQ.n.k.k.k.k) (Dk.dr_of (S := S.put i (Dk.settle1 (S.at i) p)) ⟨rfl, rfl, _, _, _, _, rfl, ⟨l, _, _, _, e2, c2, m2, (hO.put (Dk.settle_ok (hO.at hi) hd p)), hl, hlr, hM9, hM2, (hP.del (Dk.pend_settle hi rfl)), (hW.eq (Dk.wrn_put hi rfl)), rfl, (by rw [Dk.settle_len, ← Dk.settle_bl1 hi hd (by simpa using hc1.1)]; try rfl), rfl, rfl⟩⟩ (rfl) (rfl))
 ·(try simp only [bS] at hc1)
  refine wp_skip ?_
  -- falls off the end
  replace hS := hS.perm (.swap _ _ _)
  replace hS := hS.perm (.cons _ (.swap _ _ _))
  replace hS := hS.perm P2_2
  replace hS := hS.perm P3_3
  exact fn_retx (rs := []) rfl hF hS (vs := []) trivial [] [_, _, _, _] sQ (sQ.n.k.k.k.k) (Dk.dr_of (S := S.put i (Dk.settle1 (S.at i) p)) ⟨rfl, rfl, _, _, _, _, rfl, ⟨l, _, _, _, e2, c2, m2, (hO.put (Dk.settle_ok (hO.at hi) hd p)), hl, hlr, hM9, hM2, (hP.del (Dk.pend_settle hi rfl)), (hW.eq (Dk.wrn_put hi rfl)), rfl, (by rw [Dk.settle_len, ← Dk.settle_bl2 hO hi hd (hc1.imp (fun h9 => by simpa using h9) (fun h9 => by simpa using h9))]), rfl, rfl⟩⟩ (rfl) (rfl))
end
section
theorem fn134 : FnOk Tryz.prog 134 := fQ Tryz.func134
theorem fn135 : FnOk Tryz.prog 135 := fQ Tryz.func135
abbrev DDWi := Dk.DRw 124 126 3
abbrev DDWs := Dk.DRw 124 126 9
abbrev DDN := Dk.DRn 124 126
abbrev DDC := Dk.DRc 124 126
theorem sortsin : Go.Proofs.AnyZI.SortsIn Tryz.prog lsA_ren Fence.wide 4 := ⟨fun blk off cap ss W hH hblk hsz => callsIn_wide.2 (Go.Proofs.AnyM.slices_Sort_int lsS blk off cap ss W hH hblk hsz), fun p cap W => callsIn_wide.2 (Go.Proofs.AnyM.slices_Sort_int_none lsS p cap W)⟩
theorem keysP_ct (b : Nat) (w : World) : Ct Tryz.prog 135 [.map (some b)] w (fun r zs hs => ∃ e, r = .func (.func 164) (List.nil : List Value).toArray [Value.pointer (some ⟨e, 0, none⟩)].toArray ∧ zs = [] ∧ hs = [.blk e 121 [.map (some b)]]) := by
 refine fn_enter Tryz.func135 rfl Tryz.ntmps135 (Nat.le_of_ble_eq_true rfl) fun a hF hS => ?_
 refine reglS fun K1 hK1 => ?_
 refine eQ hF hS rfl (ef_box1 rfl rfl) ?_
 rintro _ _ _ a w ⟨b1, rfl, rfl, rfl⟩ hF hS
 refine lQ hF hS (aQ rfl <| sq_end) fun a w hF hS => ?_
 refine wpList_nil (hK1 _ _ ?_)
 refine regS hF hS (q0 (q_mkf rfl rfl) <| aQ rfl <| sq_end) fun a w hF hS => ?_
 refine wp_ret ?_
 exact fn_ret (rs := [.tmp 2]) rfl hF hS (vs := [_]) ⟨rfl, trivial⟩ sQ sQ ⟨_, rfl, rfl, rfl⟩
theorem sortedP_ct {l : List (Int × Value)} {es : List MapEntry} {c e b : Nat} (hM : MpT vi l es c) (hn : (l.map (·.1)).Nodup) (hk : ∀ i ∈ l.map (·.1), -9223372036854775808 ≤ i ∧ i ≤ 9223372036854775807) (hl : l.length ≤ 4096) (w0 : World) (zsr : List PH) : Cx Tryz.prog 134 [.func (.func 164) (List.nil : List Value).toArray [Value.pointer (some ⟨e, 0, none⟩)].toArray] w0 zsr [.blk e 121 [.map (some b)], .mp b es c] (fun v zs1 hs1 => zs1 = [] ∧ hs1 = [.row v 3 1 ((l.map (·.1)).mergeSort (fun x y => decide (x ≤ y))).length (((l.map (·.1)).mergeSort (fun x y => decide (x ≤ y))).map vi), .blk e 121 [.map (some b)], .mp b es c]) := sorted_cx lkP lsA sortsin 3 rfl rfl Tryz.underlying3 (Go.Proofs.enters_of Tryz.func163 kQ rfl) (Go.Proofs.enters_of Tryz.func164 kQ rfl) hM hn hk hl w0 zsr
theorem dpending_ct (h : Dk.Hd) (S : Dk.Dsk) (w0 : World) (zsr : List PH) {r1 r2 r3 r4 : Res} (hD : DD h S r1 r2 r3 r4) : Cx Tryz.prog 88 [.pointer (some ⟨h.b, 0, none⟩)] w0 zsr [r1, r2, r3, r4] (DDWi h S (Dk.dix S).length ((Dk.dix S).map vi)) := by
 refine fn_enterx Tryz.func88 rfl Tryz.ntmps88 (Nat.le_of_ble_eq_true rfl) fun hsr a w hF hS => ?_
 replace hS := nt0_4 hS
 obtain ⟨l, e1, c1, m1, e2, c2, m2, hO, hl, hlr, hM1, hM2, hP, hW, rfl, rfl, rfl, rfl⟩ := hD
 have hlo := hO.lo
 have hhi := hO.hi
 have hlf := hO.lf
 have hlg := hO.lf2
 have hbl := Dk.bl_len S
 have hbs := Dk.bl_64 hO
 replace hS := nt0_4 hS
 refine regS hF hS (aQ rfl <| sq_end) fun a w hF hS => ?_
 refine reglS fun K2 hK2 => ?_
 refine lQ hF hS (mQ rfl <| q0 (q_nilCheck rfl) <| q0 (q_fieldAddr ty124 rfl rfl (s' := 0) kQ) <| q0 (q_ld_blk1 ty121 0 rfl rfl rfl rfl) <| sq_end) fun a w hF hS => ?_
 refine eQ hF hS rfl (ef_call fn135 rfl (fun w hS => keysP_ct _ w )) ?_
 rintro _ _ _ a w ⟨_, _, rfl, rfl, ⟨bx2, rfl, rfl, rfl⟩⟩ hF hS
 replace hS := nt0_5 hS
 replace hS := hS.perm P1_2
 replace hS := nt0_5 hS
 refine eQ hF hS rfl (ef_callx fn134 rfl (List.Perm.refl _) (by exact (sortedP_ct hM1 hP.1 (Dk.mok_rng Dk.pend_some hO hP) (Dk.len_d hO hP) _ _ (b := h.p) ))) ?_
 rintro v3 _ _ a w ⟨_, _, rfl, rfl, ⟨rfl, rfl⟩⟩ hF hS
 replace hS : St _ (_) (_ :: _ :: _ :: _ :: _ :: _ :: _) _ := hS
 refine lQ hF hS (aQ rfl <| sq_end) fun a w hF hS => ?_
 refine wpList_nil ?_
 rw [Dk.keys_d hP] at hS
 refine hK2 _ _ ?_
 refine wp_ret ?_
 replace hS := hS.perm P1_2
 replace hS := hS.perm P2_3
 replace hS := hS.perm P3_3
 replace hS := hS.perm (.cons _ (.cons _ (.cons _ (.cons _ (.swap _ _ _)))))
 exact fn_retx (rs := [.tmp 2]) rfl hF hS (vs := [_]) ⟨rfl, trivial⟩ [] [_, _, _, _, _] sQ (sQ.n.k.k.k.k.k) (Dk.drw_of ⟨rfl, _, _, _, _, rfl, ⟨l, e1, c1, m1, e2, c2, m2, hO, hl, hlr, hM1, hM2, hP, hW, rfl, rfl, rfl, rfl⟩⟩ (rfl) (rfl))
end
section
theorem ty22 : Tf Tryz.prog 22 (.slice 3) 1 24 (Value.slice none 0 0) := ⟨Tryz.underlying22, by kernel_rfl⟩
theorem fn88 : FnOk Tryz.prog 88 := fQ Tryz.func88
theorem fn89 : FnOk Tryz.prog 89 := fQ Tryz.func89
theorem dflush_ct (h : Dk.Hd) (S : Dk.Dsk) (w0 : World) (zsr : List PH) {r1 r2 r3 r4 : Res} (hD : DD h S r1 r2 r3 r4) : Cx Tryz.prog 151 [.pointer (some ⟨h.b, 0, none⟩)] w0 zsr [r1, r2, r3, r4] (DDR h ((Dk.flush S).1) (vi (Dk.flush S).2)) := by
 refine fn_enterx Tryz.func151 rfl Tryz.ntmps151 (Nat.le_of_ble_eq_true rfl) fun hsr a w hF hS => ?_
 replace hS := nt0_4 hS
 have hO := Dk.DOk.ok hD
 refine regS hF hS (aQ rfl <| sq_end) fun a w hF hS => ?_
 refine k0 ?_; intro K2 hK2
 refine reglS fun K3 hK3 => ?_
 refine lQ hF hS (mQ rfl <| sq_end) fun a w hF hS => ?_
 refine eQ hF hS rfl (ef_callx fn66 rfl (List.Perm.refl _) (by exact (dcheck_ct _ _ _ _ _  hD))) ?_
 rintro _ _ _ a w ⟨_, _, rfl, rfl, ⟨rfl, rfl, qa2, qb3, qc4, qd5, rfl, hD6⟩⟩ hF hS
 replace hS := nt0_4 hS
 refine lQ hF hS (aQ rfl <| sq_end) fun a w hF hS => ?_
 refine wpList_nil (hK3 _ _ ?_)
 refine regS hF hS (mQ rfl <| q0 (q_nei rfl rfl) <| sq_end) fun a w hF hS => ?_
 refine wp_ifn hF rfl (fun hc1 => ?_) (fun hc1 => ?_)
 ·refine k0 ?_; intro K5 hK5
  refine reg hF hS (mQ rfl <| aQ rfl <| sq_end) fun a w hF hS => ?_
  refine hK5 _ _ ?_
  refine wp_ret ?_
  exact fn_retx (rs := [.tmp 2]) rfl hF hS (vs := [_]) ⟨rfl, trivial⟩ [] [_, _, _, _] sQ sQ (Dk.dr_of (S := S) ⟨rfl, rfl, _, _, _, _, rfl, hD6⟩ (by rw [Dk.flush_1 (Dk.off_of hO hc1).1]) (by rw [Dk.flush_1 (Dk.off_of hO hc1).1, (Dk.off_of hO hc1).2]))
 ·have hc0 : Dk.check S 0 = 0 := by omega
  have hof := (Dk.check_0 hc0).1
  refine wp_skip ?_
  refine hK2 _ _ ?_
  refine k0 ?_; intro K6 hK6
  refine reglS fun K7 hK7 => ?_
  refine lQ hF hS (mQ rfl <| sq_end) fun a w hF hS => ?_
  refine eQ hF hS rfl (ef_callx fn182 rfl (List.Perm.refl _) (by exact (dstep_ct _ _ _ _  hD6))) ?_
  rintro _ _ _ a w ⟨_, _, rfl, rfl, ⟨rfl, rfl, qa8, qb9, qc10, qd11, rfl, hD12⟩⟩ hF hS
  replace hS := nt0_4 hS
  refine lQ hF hS (aQ rfl <| sq_end) fun a w hF hS => ?_
  refine wpList_nil (hK7 _ _ ?_)
  refine regS hF hS (mQ rfl <| q0 (q_nei rfl rfl) <| sq_end) fun a w hF hS => ?_
  refine wp_ifn hF rfl (fun hc2 => ?_) (fun hc2 => ?_)
  ·refine k0 ?_; intro K9 hK9
   refine reg hF hS (mQ rfl <| aQ rfl <| sq_end) fun a w hF hS => ?_
   refine hK9 _ _ ?_
   refine wp_ret ?_
   exact fn_retx (rs := [.tmp 2]) rfl hF hS (vs := [_]) ⟨rfl, trivial⟩ [] [_, _, _, _] sQ sQ (Dk.dr_of (S := (Dk.step S).1) ⟨rfl, rfl, _, _, _, _, rfl, hD12⟩ (by rw [Dk.flush_2 hof hc2]) (by rw [Dk.flush_2 hof hc2]))
  ·have hs0 : (Dk.step S).2 = 0 := by omega
   have hO1 := Dk.ok_step hO
   refine wp_skip ?_
   refine hK6 _ _ ?_
   refine k0 ?_; intro K10 hK10
   refine reglS fun K11 hK11 => ?_
   refine lQ hF hS (mQ rfl <| sq_end) fun a w hF hS => ?_
   refine eQ hF hS rfl (ef_callx fn88 rfl (List.Perm.refl _) (by exact (dpending_ct _ _ _ _  hD12))) ?_
   rintro v13 _ _ a w ⟨_, _, rfl, rfl, ⟨rfl, qa14, qb15, qc16, qd17, rfl, hD18⟩⟩ hF hS
   replace hS := nt0_5 hS
   refine lQ hF hS (q0 (q_len_row ty22 0 rfl rfl) <| mQ rfl <| sq_end) fun a w hF hS => ?_
   refine wpList_nil (hK11 _ _ ?_)
   refine wp_block ?_
   obtain ⟨hs0, hhs0, hS⟩ := hS.oh
   refine wp_loopx (γ := Res × Res × Res × Res × Nat) (qa14, qb15, qc16, qd17, 0) (fun (q1, q2, q3, q4, j) => [(20, vi (j : Int))]) [(0, _), (18, _), (19, _)] (fun (q1, q2, q3, q4, j) => ((((hs0.set 1 (q1)).set 2 (q2)).set 3 (q3)).set 4 (q4))) (fun (q1, q2, q3, q4, j) => j ≤ (Dk.dix (Dk.step S).1).length ∧ DD h (Dk.mst (Dk.step S).1 [] j) q1 q2 q3 q4) (fun (q1, q2, q3, q4, j) => (Dk.dix (Dk.step S).1).length - j) (hF.sub ⟨rfl, rfl, rfl, rfl, trivial⟩) (by subst hhs0; exact hS) (by exact ⟨Nat.zero_le _, by rw [Dk.mst_0]; exact hD18⟩) ?_
   rintro ⟨q1, q2, q3, q4, j⟩ a w hfact hF hS
   subst hhs0; (try dsimp only at hfact hF hS)
   obtain ⟨hj0, hDq⟩ := hfact
   replace hS := nt0_5 hS
   refine regS hF hS (q0 (q_lti rfl rfl) <| sq_end) fun a w hF hS => ?_
   refine k0 ?_; intro K13 hK13
   refine wp_ifd hF rfl (fun hc3 => ?_) (fun hc3 => ?_)
   ·obtain ⟨hsx, hsy, hsz⟩ := Dk.mst_step (Dk.step S).1 [] (j := j) (by omega)
    have hdl := Dk.dix_len (Dk.step S).1
    have hdh := hO1.hi
    have hdr := Dk.dix_rng hO1 (Dk.getD_mem (l := Dk.dix (Dk.step S).1) (j := j) (d := 0) (by omega))
    refine wp_skip ?_
    refine hK13 _ _ ?_
    refine k0 ?_; intro K14 hK14
    refine wp_block ?_
    refine k0 ?_; intro K15 hK15
    refine reg hF hS (q0 (q_idx_row ty22 ty3 0 rfl rfl rfl (by omega)) <| q0 (q_ld_rowM ty3 0 (0 : Int) rfl rfl bQ rfl) <| aQ rfl <| sq_end) fun a w hF hS => ?_
    rw [Int.toNat_natCast] at hF
    refine hK15 _ _ ?_
    refine regl ?_
    refine lQ hF hS (mQ rfl <| mQ rfl <| sq_end) fun a w hF hS => ?_
    replace hS := hS.perm (.swap _ _ _)
    replace hS := hS.perm (.cons _ (.swap _ _ _))
    replace hS := hS.perm P2_2
    replace hS := hS.perm P3_3
    replace hS := nt0_5 hS
    refine eQ hF hS rfl (ef_callx fn89 rfl (List.Perm.refl _) (by exact (dsettle_ct _ _ _ _ (by first | assumption | omega) (by assumption) (by omega) _ _  hDq))) ?_
    rintro _ _ _ a w ⟨_, _, rfl, rfl, ⟨rfl, rfl, qa21, qb22, qc23, qd24, rfl, hD25⟩⟩ hF hS
    replace hS := nt0_5 hS
    refine wpList_nil (hK14 _ _ ?_)
    refine reg hF hS (pQ rfl rfl <| mQ rfl <| sq_end) fun a w hF hS => ?_
    replace hS := hS.perm P0_3
    replace hS := hS.keep sQ sQ
    refine ⟨(qa21, qb22, qc23, qd24, j + 1), ?_, ?_, hF.sub ⟨rfl, rfl, rfl, rfl, trivial⟩, ?_⟩
    ·(try dsimp only); omega
    ·exact ⟨by omega, hsz ▸ hD25⟩
    ·exact hS
   ·refine wp_exit ?_
    refine hK10 _ _ ?_
    refine regS hF hS (aQ rfl <| sq_end) fun a w hF hS => ?_
    refine wp_ret ?_
    replace hS := hS.perm (.swap _ _ _)
    replace hS := hS.perm (.cons _ (.swap _ _ _))
    replace hS := hS.perm P2_2
    replace hS := hS.perm P3_3
    exact fn_retx (rs := [.tmp 2]) rfl hF hS (vs := [_]) ⟨rfl, trivial⟩ [] [_, _, _, _] sQ (sQ.n.k.k.k.k) (Dk.dr_of (S := Dk.mst (Dk.step S).1 [] j) ⟨rfl, rfl, _, _, _, _, rfl, hDq⟩ (by rw [Dk.flush_3 hof hs0, show j = (Dk.dix (Dk.step S).1).length by omega]) (by rw [Dk.flush_3 hof hs0]))
theorem dmount_ct (h : Dk.Hd) (S : Dk.Dsk) (pv : Value) (ps : List Int) (w0 : World) (zsr : List PH) (z : PH) (hps : Sl Go.Fw.encI z pv ps) (hz : ZIn w0 zsr z) {r1 r2 r3 r4 : Res} (hD : DD h S r1 r2 r3 r4) : Cx Tryz.prog 50 [.pointer (some ⟨h.b, 0, none⟩), pv] w0 zsr [r1, r2, r3, r4] (DDR h (Dk.mount S ps) (.tuple ([] : List Value).toArray)) := by
 refine fn_enterx Tryz.func50 rfl Tryz.ntmps50 (Nat.le_of_ble_eq_true rfl) fun hsr a w hF hS => ?_
 replace hS := nt0_4 hS
 have hO := Dk.DOk.ok hD
 have hpr := sl_rng hps
 have hpl := hps.1
 refine k0 ?_; intro K1 hK1
 refine reglS fun K2 hK2 => ?_
 refine lQ hF hS (mQ rfl <| sq_end) fun a w hF hS => ?_
 refine eQ hF hS rfl (ef_callx fn88 rfl (List.Perm.refl _) (by exact (dpending_ct _ _ _ _  hD))) ?_
 rintro v1 _ _ a w ⟨_, _, rfl, rfl, ⟨rfl, qa2, qb3, qc4, qd5, rfl, hD6⟩⟩ hF hS
 replace hS := nt0_5 hS
 refine lQ hF hS (q0 (q_len_row ty22 0 rfl rfl) <| mQ rfl <| sq_end) fun a w hF hS => ?_
 refine wpList_nil (hK2 _ _ ?_)
 refine wp_block ?_
 obtain ⟨hs0, hhs0, hS⟩ := hS.oh
 refine wp_loopx (γ := Res × Res × Res × Res × Nat) (qa2, qb3, qc4, qd5, 0) (fun (q1, q2, q3, q4, j) => [(10, vi (j : Int))]) [(0, _), (1, _), (8, _), (9, _)] (fun (q1, q2, q3, q4, j) => ((((hs0.set 1 (q1)).set 2 (q2)).set 3 (q3)).set 4 (q4))) (fun (q1, q2, q3, q4, j) => j ≤ (Dk.dix S).length ∧ DD h (Dk.mst S ps j) q1 q2 q3 q4) (fun (q1, q2, q3, q4, j) => (Dk.dix S).length - j) (hF.sub ⟨rfl, rfl, rfl, rfl, rfl, trivial⟩) (by subst hhs0; exact hS) (by exact ⟨Nat.zero_le _, by rw [Dk.mst_0]; exact hD6⟩) ?_
 rintro ⟨q1, q2, q3, q4, j⟩ a w hfact hF hS
 subst hhs0; (try dsimp only at hfact hF hS)
 obtain ⟨hj0, hDq⟩ := hfact
 replace hS := nt0_5 hS
 refine regS hF hS (q0 (q_lti rfl rfl) <| sq_end) fun a w hF hS => ?_
 refine k0 ?_; intro K4 hK4
 refine wp_ifd hF rfl (fun hc1 => ?_) (fun hc1 => ?_)
 ·obtain ⟨hsx, hsy, hsz⟩ := Dk.mst_step S ps (j := j) (by omega)
  have hdl := Dk.dix_len S
  have hdh := hO.hi
  have hdr := Dk.dix_rng hO (Dk.getD_mem (l := Dk.dix S) (j := j) (d := 0) (by omega))
  have hpk9 := Dk.pk_rng hpr j
  refine wp_skip ?_
  refine hK4 _ _ ?_
  refine k0 ?_; intro K5 hK5
  refine wp_block ?_
  refine k0 ?_; intro K6 hK6
  refine reg hF hS (mQ rfl <| q0 (q_idx_row ty22 ty3 0 rfl rfl rfl (by omega)) <| q0 (q_ld_rowM ty3 0 (0 : Int) rfl rfl bQ rfl) <| aQ rfl <| aQ rfl <| sq_end) fun a w hF hS => ?_
  rw [Int.toNat_natCast] at hF
  refine hK6 _ _ ?_
  refine regS hF hS (aQ rfl <| sq_end) fun a w hF hS => ?_
  obtain ⟨hs0, hhs0, hS⟩ := hS.oh
  refine wp_cutx (γ := Int) (fun (p : Int) => [(6, vi p)]) [(0, _), (1, _), (5, _), (8, _), (9, _), (10, _)] (fun (p : Int) => hs0) (fun (p : Int) => p = Dk.pk ps j) (hF.sub ⟨rfl, rfl, rfl, rfl, rfl, rfl, trivial⟩) hS ?_ ?_
  ·subst hhs0
   refine regS hF hS (mQ rfl <| mQ rfl <| q0 (q_len_sl ty22 hps rfl) <| q0 (q_lti rfl rfl) <| sq_end) fun a w hF hS => ?_
   refine wp_ifd hF rfl (fun hc2 => ?_) (fun hc2 => ?_)
   ·refine reg hF hS (mQ rfl <| mQ rfl <| q0 (q_idx_sl ty22 ty3 hps rfl rfl (by omega)) <| q0 (q_ld_I ty3 hps hz rfl rfl (by omega)) <| aQ rfl <| sq_end) fun a w hF hS => ?_
    refine ⟨((ps.getD ((j : Int)).toNat 0)), ?_, hF.sub ⟨rfl, rfl, rfl, rfl, rfl, rfl, rfl, trivial⟩, ?_⟩
    ·rw [Int.toNat_natCast]; exact (Dk.pk_1 (by omega)).symm
    ·exact hS
   ·refine wp_skip ?_
    refine ⟨(64), ?_, hF.sub ⟨rfl, rfl, rfl, rfl, rfl, rfl, rfl, trivial⟩, ?_⟩
    ·exact (Dk.pk_2 (by omega)).symm
    ·exact hS
  rintro p a w hfact hF hS
  subst hhs0; (try dsimp only at hfact hF hS)
  have hpk := hfact
  replace hS := nt0_5 hS
  subst hpk
  refine regl ?_
  refine lQ hF hS (mQ rfl <| mQ rfl <| mQ rfl <| sq_end) fun a w hF hS => ?_
  replace hS := hS.perm (.swap _ _ _)
  replace hS := hS.perm (.cons _ (.swap _ _ _))
  replace hS := hS.perm P2_2
  replace hS := hS.perm P3_3
  replace hS := nt0_5 hS
  refine eQ hF hS rfl (ef_callx fn89 rfl (List.Perm.refl _) (by exact (dsettle_ct _ _ _ _ (by first | assumption | omega) (by assumption) (by omega) _ _  hDq))) ?_
  rintro _ _ _ a w ⟨_, _, rfl, rfl, ⟨rfl, rfl, qa9, qb10, qc11, qd12, rfl, hD13⟩⟩ hF hS
  replace hS := nt0_5 hS
  refine wpList_nil (hK5 _ _ ?_)
  refine reg hF hS (pQ rfl rfl <| mQ rfl <| sq_end) fun a w hF hS => ?_
  replace hS := hS.perm P0_3
  replace hS := hS.keep sQ sQ
  refine ⟨(qa9, qb10, qc11, qd12, j + 1), ?_, ?_, hF.sub ⟨rfl, rfl, rfl, rfl, rfl, trivial⟩, ?_⟩
  ·(try dsimp only); omega
  ·exact ⟨by omega, hsz ▸ hD13⟩
  ·exact hS
 ·obtain ⟨lz, e1z, c1z, m1z, e2z, c2z, m2z, hOz, hlz, hlrz, hM1z, hM2z, hPz, hWz, rfl, rfl, rfl, rfl⟩ := hDq
  have hloz := hOz.lo
  have hhiz := hOz.hi
  have hlfz := hOz.lf
  have hlgz := hOz.lf2
  have hblz := Dk.bl_len (Dk.mst S ps j)
  have hbsz := Dk.bl_64 hOz
  replace hS := nt0_5 hS
  have hje : (Dk.dix S).length ≤ j := by omega
  refine wp_exit ?_
  refine hK1 _ _ ?_
  refine regl ?_
  refine lQ hF hS (mQ rfl <| mQ rfl <| q0 (q_nilCheck rfl) <| q0 (q_fieldAddr ty124 rfl rfl (s' := 0) kQ) <| sq_end) fun a w hF hS => ?_
  refine eQ hF hS rfl (ef_store1 ty4 1 rfl rfl rfl rfl (by simp)) ?_
  rintro _ _ _ a w ⟨rfl, rfl, rfl⟩ hF hS
  replace hS : St _ (_) (_ :: .blk _ _ ([_, _, _, _, _].set 3 _) :: _ :: _ :: _ :: _) _ := hS
  simp only [List.set_cons_zero, List.set_cons_succ] at hS
  replace hS := nt0_5 hS
  refine lQ hF hS (q0 (q_nilCheck rfl) <| q0 (q_fieldAddr ty124 rfl rfl (s' := 0) kQ) <| sq_end) fun a w hF hS => ?_
  refine eQ hF hS rfl (ef_store1 ty3 1 rfl rfl rfl rfl (by simp)) ?_
  rintro _ _ _ a w ⟨rfl, rfl, rfl⟩ hF hS
  replace hS : St _ (_) (_ :: .blk _ _ ([_, _, _, _, _].set 4 _) :: _ :: _ :: _ :: _) _ := hS
  simp only [List.set_cons_zero, List.set_cons_succ] at hS
  replace hS := nt0_5 hS
  refine wpList_nil ?_
  -- falls off the end
  replace hS := hS.perm (.swap _ _ _)
  replace hS := hS.perm (.cons _ (.swap _ _ _))
  replace hS := hS.perm P2_2
  replace hS := hS.perm P3_3
  exact fn_retx (rs := []) rfl hF hS (vs := []) trivial [] [_, _, _, _] sQ (sQ.n.k.k.k.k) (Dk.dr_of (S := ⟨(Dk.mst S ps j).s, false, -1⟩) ⟨rfl, rfl, _, _, _, _, rfl, ⟨(-1), e1z, c1z, m1z, e2z, c2z, m2z, ⟨hOz.sec, hOz.lo, hOz.hi, by dsimp only; decide, by dsimp only; decide⟩, rfl, (by decide), hM1z, hM2z, hPz, hWz, rfl, rfl, rfl, rfl⟩⟩ (Dk.mount_eq S ps hje) (rfl))
theorem dnew_ct (n : Nat) (hn : 1 ≤ n ∧ n ≤ 4096) (w : World) : Ct Tryz.prog 63 [vi (n : Int)] w (DDN (Dk.new n) (fun p => .tuple [p, vi 0].toArray)) := by
 refine fn_enter Tryz.func63 rfl Tryz.ntmps63 (Nat.le_of_ble_eq_true rfl) fun a hF hS => ?_
 refine regS hF hS (aQ rfl <| aQ rfl <| sq_end) fun a w hF hS => ?_
 refine k0 ?_; intro K2 hK2
 refine reglS fun K3 hK3 => ?_
 refine lQ hF hS (mQ rfl <| q0 (q_lti rfl rfl) <| mQ rfl <| sq_end) fun a w hF hS => ?_
 refine wpl_or 2 6 2 hF hS rfl rfl rfl rfl rfl (fun hg => have hg := (by first | exact of_decide_eq_false hg | exact hg); sq_go 6 rfl rfl rfl (q_move rfl) <| sq_go 6 rfl rfl rfl (q_gti rfl rfl) <| sq_end) rfl rfl fun a w hF hS => ?_
 refine wpList_nil (hK3 _ _ ?_)
 refine wp_if hF rfl (fun hc1 => ?_) (fun hc1 => ?_)
 ·(try simp only [bS] at hc1)
  exfalso; omega
 ·(try simp only [bS] at hc1)
  refine wp_skip ?_
  refine hK2 _ _ ?_
  refine reglS fun K4 hK4 => ?_
  refine lQ hF hS (mQ rfl <| sq_end) fun a w hF hS => ?_
  refine eQ hF hS rfl (ef_mksS ty120 ty126 rfl rfl (by omega) (by omega) rfl (by decide) (by omega)) ?_
  rintro v1 _ _ a w ⟨rfl, rfl⟩ hF hS
  replace hS := nl0_1 hS
  refine eQ hF hS rfl (ef_mkmap) ?_
  rintro _ _ _ a w ⟨b3, rfl, rfl, rfl⟩ hF hS
  replace hS := nl0_2 hS
  refine eQ hF hS rfl (ef_mkmap) ?_
  rintro _ _ _ a w ⟨b5, rfl, rfl, rfl⟩ hF hS
  replace hS := nl0_3 hS
  refine lQ hF hS (q0 (q_buildP (places := [(0, 1), (1, 1), (2, 1), (3, 1), (4, 1)]) (cells := [_, _, _, .bool false, _]) ty124 kQ rfl (fill_stepL (c := [_]) (l := [_, _, _, _, _]) (l' := [_, _, _, _, _]) rfl (cells_one (row_one (hS.own _ (List.mem_of_getElem? (i := 2) rfl)).1)) rfl (Nat.le_of_ble_eq_true rfl) rfl (fill_stepL (c := [_]) (l := [_, _, _, _, _]) (l' := [_, _, _, _, _]) rfl (cells_one rfl) rfl (Nat.le_of_ble_eq_true rfl) rfl (fill_stepL (c := [_]) (l := [_, _, _, _, _]) (l' := [_, _, _, _, _]) rfl (cells_one rfl) rfl (Nat.le_of_ble_eq_true rfl) rfl (fill_stepL (c := [_]) (l := [_, _, _, _, _]) (l' := [_, _, _, _, _]) rfl (cells_one rfl) rfl (Nat.le_of_ble_eq_true rfl) rfl (fill_endL rfl)))))) <| sq_end) fun a w hF hS => ?_
  refine eQ hF hS rfl (ef_boxA rfl) ?_
  rintro _ _ _ a w ⟨b7, rfl, rfl, rfl⟩ hF hS
  refine lQ hF hS (aQ rfl <| aQ rfl <| sq_end) fun a w hF hS => ?_
  refine wpList_nil ?_
  rw [Dk.new_cells] at hS
  refine hK4 _ _ ?_
  refine wp_ret ?_
  replace hS := hS.perm P1_2
  replace hS := hS.perm P2_2
  exact fn_ret (rs := [.tmp 2, .tmp 3]) rfl hF hS (vs := [_, _]) ⟨rfl, rfl, trivial⟩ sQ sQ ⟨rfl, ⟨b7, v1, b3, b5⟩, _, _, _, _, rfl, rfl, ⟨-1, [], 0, [], [], 0, [], Dk.ok_new hn.1 hn.2, rfl, by decide, MpT.nil, MpT.nil, Dk.MOk.nil (Dk.new_pend n), Dk.MOk.nil (Dk.new_wrn n), rfl, by rw [Dk.new_len], rfl, rfl⟩⟩
end
section
abbrev RRB := Dk.RB 162
abbrev RRW := Dk.RW 166
abbrev RRD := Dk.RDR 162 166
abbrev RRDi := Dk.RDRw 162 166 3
abbrev RRDs := Dk.RDRw 162 166 9
end
section
theorem fn141 : FnOk Tryz.prog 141 := fQ Tryz.func141
theorem ix_ct (v : Value) (xs : List Int) (n : Int) (w : World) (hb : Sl Go.Fw.encI (ph w) v xs) : Ct Tryz.prog 141 [v, vi n] w (fun r _ _ => r = vi (Gu.ixF (fun y => decide (n = y)) xs)) := by
 refine fn_enter Tryz.func141 rfl Tryz.ntmps141 (Nat.le_of_ble_eq_true rfl) fun a hF hS => ?_
 have hbl := hb.1
 refine regS hF hS (aQ rfl <| sq_end) fun a w hF hS => ?_
 refine k0 ?_; intro K2 hK2
 refine regS hF hS (mQ rfl <| q0 (q_len_sl ty22 hb rfl) <| mQ rfl <| sq_end) fun a w hF hS => ?_
 refine wp_block ?_
 obtain ⟨hs0, hhs0, hS⟩ := hS.oh
 refine wp_loopx (γ := Int) (0) (fun (i : Int) => [(8, vi i)]) [(0, _), (1, _), (7, _)] (fun (i : Int) => hs0) (fun (i : Int) => 0 ≤ i ∧ i ≤ xs.length ∧ ∀ j, j < i.toNat → (fun y => decide (n = y)) (xs.getD j 0) = false) (fun (i : Int) => (xs.length - i).toNat) (hF.sub ⟨rfl, rfl, rfl, rfl, trivial⟩) (by subst hhs0; exact hS) (by exact ⟨Int.le_refl _, by omega, fun j hj => absurd hj (by simp)⟩) ?_
 rintro i a w hfact hF hS
 subst hhs0; (try dsimp only at hfact hF hS)
 obtain ⟨hi0, hi1, hno⟩ := hfact
 replace hS : St _ [] [] _ := hS
 refine regS hF hS (q0 (q_lti rfl rfl) <| sq_end) fun a w hF hS => ?_
 refine k0 ?_; intro K5 hK5
 refine wp_ifd hF rfl (fun hc1 => ?_) (fun hc1 => ?_)
 ·refine wp_skip ?_
  refine hK5 _ _ ?_
  refine k0 ?_; intro K6 hK6
  refine wp_block ?_
  refine regS hF hS (mQ rfl <| aQ rfl <| sq_end) fun a w hF hS => ?_
  refine regS hF hS (mQ rfl <| mQ rfl <| mQ rfl <| q0 (q_idx_sl ty22 ty3 hb rfl rfl (by omega)) <| q0 (q_ld_I ty3 hb zin0 rfl rfl (by omega)) <| q0 (q_eqi rfl rfl) <| sq_end) fun a w hF hS => ?_
  refine wp_ifd hF rfl (fun hc2 => ?_) (fun hc2 => ?_)
  ·refine k0 ?_; intro K9 hK9
   refine reg hF hS (mQ rfl <| aQ rfl <| sq_end) fun a w hF hS => ?_
   refine hK9 _ _ ?_
   refine wp_ret ?_
   exact fn_ret (rs := [.tmp 4]) rfl hF hS (vs := [_]) ⟨rfl, trivial⟩ zQ zQ (by rw [Gu.ixF_at (i := i.toNat) (by omega) (decide_eq_true hc2) hno, Int.toNat_of_nonneg hi0])
  ·refine wp_skip ?_
   refine hK6 _ _ ?_
   refine reg hF hS (pQ rfl rfl <| mQ rfl <| sq_end) fun a w hF hS => ?_
   refine ⟨(i + 1), ?_, ?_, hF.sub ⟨rfl, rfl, rfl, rfl, trivial⟩, ?_⟩
   ·(try dsimp only); omega
   ·exact ⟨by omega, by omega, Gu.none_step (p := (fun y => decide (n = y))) hi0 (decide_eq_false hc2) hno⟩
   ·exact hS
 ·refine wp_exit ?_
  refine hK2 _ _ ?_
  refine regS hF hS (aQ rfl <| sq_end) fun a w hF hS => ?_
  refine wp_ret ?_
  exact fn_ret (rs := [.tmp 4]) rfl hF hS (vs := [_]) ⟨rfl, trivial⟩ zQ zQ (by rw [Gu.ixF_no (fun j hj => hno j (by omega))])
theorem cont_ct (v : Value) (xs : List Int) (n : Int) (w : World) (hb : Sl Go.Fw.encI (ph w) v xs) : Ct Tryz.prog 95 [v, vi n] w (fun r _ _ => r = .bool (decide (n ∈ xs))) := by
 refine fn_enter Tryz.func95 rfl Tryz.ntmps95 (Nat.le_of_ble_eq_true rfl) fun a hF hS => ?_
 have hbl := hb.1
 refine regS hF hS (aQ rfl <| sq_end) fun a w hF hS => ?_
 refine regS hF hS (mQ rfl <| mQ rfl <| q0 (q_call fn141 rfl (fun w hS => ix_ct _ _ _ w (Sl.mono (hS.le zin0) hb)) (fun _ _ _ h => h)) <| q0 (q_gei rfl rfl) <| aQ rfl <| sq_end) fun a w hF hS => ?_
 refine wp_ret ?_
 exact fn_ret (rs := [.tmp 4]) rfl hF hS (vs := [_]) ⟨rfl, trivial⟩ zQ zQ (by rw [Gu.ixF_mem])
end
section
attribute [local irreducible] Sha.sum
theorem count_ct (n : Int) (hn : -9223372036854775808 ≤ n ∧ n ≤ 9223372036854775807) (w : World) : Ct Tryz.prog 27 [vi n] w (fun r _ _ => r = vi (Jn.cnt n)) := by
 refine fn_enter Tryz.func27 rfl Tryz.ntmps27 (Nat.le_of_ble_eq_true rfl) fun a hF hS => ?_
 refine regS hF hS (aQ rfl <| sq_end) fun a w hF hS => ?_
 refine k0 ?_; intro K2 hK2
 refine reglS fun K3 hK3 => ?_
 refine lQ hF hS (mQ rfl <| q0 (q_lti rfl rfl) <| mQ rfl <| sq_end) fun a w hF hS => ?_
 refine wpl_or 2 5 2 hF hS rfl rfl rfl rfl rfl (fun hg => have hg := (by first | exact of_decide_eq_false hg | exact hg); sq_go 5 rfl rfl rfl (q_move rfl) <| sq_go 5 rfl rfl rfl (q_gti rfl rfl) <| sq_end) rfl rfl fun a w hF hS => ?_
 refine wpList_nil (hK3 _ _ ?_)
 refine wp_if hF rfl (fun hc1 => ?_) (fun hc1 => ?_)
 ·(try simp only [bS] at hc1)
  refine regS hF hS (aQ rfl <| sq_end) fun a w hF hS => ?_
  refine wp_ret ?_
  exact fn_ret (rs := [.tmp 2]) rfl hF hS (vs := [_]) ⟨rfl, trivial⟩ zQ zQ (by rw [Jn.cnt_1 (by omega)])
 ·(try simp only [bS] at hc1)
  refine wp_skip ?_
  refine hK2 _ _ ?_
  refine regS hF hS (mQ rfl <| pQ rfl rfl <| dQ rfl rfl <| q0 (q_quoi rfl rfl (by omega)) <| q0 (q_max rfl rfl) <| aQ rfl <| sq_end) fun a w hF hS => ?_
  refine wp_ret ?_
  exact fn_ret (rs := [.tmp 2]) rfl hF hS (vs := [_]) ⟨rfl, trivial⟩ zQ zQ (by rw [Jn.cnt_2 (by omega)])
theorem beq_ct (v u : Value) (xs ys : List UInt8) (w : World) (hb : Sl encB (ph w) v xs) (hb2 : Sl encB (ph w) u ys) : Ct Tryz.prog 103 [v, u] w (fun r _ _ => r = .bool (decide (xs = ys))) := by
 refine fn_enter Tryz.func103 rfl Tryz.ntmps103 (Nat.le_of_ble_eq_true rfl) fun a hF hS => ?_
 have hbl := hb.1
 have hbl2 := hb2.1
 refine regS hF hS (aQ rfl <| sq_end) fun a w hF hS => ?_
 refine regS hF hS (mQ rfl <| q0 (q_b2s_sl ty25 ty9 ty5 hb zin0 rfl) <| mQ rfl <| q0 (q_b2s_sl ty25 ty9 ty5 hb2 zin0 rfl) <| q0 (q_eqs rfl rfl) <| aQ rfl <| sq_end) fun a w hF hS => ?_
 refine wp_ret ?_
 exact fn_ret (rs := [.tmp 4]) rfl hF hS (vs := [_]) ⟨rfl, trivial⟩ zQ zQ (rfl)
end
section
theorem fn145 : FnOk Tryz.prog 145 := fQ Tryz.func145
theorem fn168 : FnOk Tryz.prog 168 := fQ Tryz.func168
attribute [local irreducible] Sha.sum
theorem put_ct (b : Nat) (bt : TypeId) (off m cc n : Nat) (xs : List UInt8) (hm : m ≤ 8) (hn : n < 9223372036854775808) (hx : off + m ≤ xs.length) (w0 : World) (zsr : List PH) : Cx Tryz.prog 181 [.slice (some ⟨b, off, none⟩) m cc, vi (n : Int)] w0 zsr [.blk b bt (xs.map vb)] (fun r zs1 hs1 => r = .tuple #[] ∧ zs1 = [] ∧ hs1 = [.blk b bt ((Jn.pw xs off n m).map vb)]) := by
 refine fn_enterx Tryz.func181 rfl Tryz.ntmps181 (Nat.le_of_ble_eq_true rfl) fun hsr a w hF hS => ?_
 replace hS : St _ (_) (_ :: _) _ := hS
 refine regS hF hS (mQ rfl <| q0 (q_len_slv ty25 rfl) <| mQ rfl <| sq_end) fun a w hF hS => ?_
 refine wp_block ?_
 obtain ⟨hs0, hhs0, hS⟩ := hS.oh
 refine wp_loopx (γ := Nat) (0) (fun (k : Nat) => [(7, vi (k : Int)), (1, vi (Jn.dv n k : Int))]) [(0, _), (6, _)] (fun (k : Nat) => (hs0.set 0 (.blk b bt ((Jn.pw xs off n k).map vb)))) (fun (k : Nat) => k ≤ m) (fun (k : Nat) => m - k) (hF.sub ⟨rfl, (by show some (vi _) = some (vi _); rw [Jn.dv_0]), rfl, rfl, trivial⟩) (by subst hhs0; (try dsimp only); rw [Jn.pw_0]; exact hS) (by exact Nat.zero_le _) ?_
 rintro k a w hfact hF hS
 subst hhs0; (try dsimp only at hfact hF hS)
 have hk0 := hfact
 replace hS : St _ (_) (_ :: _) _ := hS
 have hdl := Jn.dv_le n k
 refine regS hF hS (q0 (q_lti rfl rfl) <| sq_end) fun a w hF hS => ?_
 refine k0 ?_; intro K3 hK3
 refine wp_ifd hF rfl (fun hc1 => ?_) (fun hc1 => ?_)
 ·refine wp_skip ?_
  refine hK3 _ _ ?_
  refine k0 ?_; intro K4 hK4
  refine wp_block ?_
  refine regS hF hS (mQ rfl <| aQ rfl <| sq_end) fun a w hF hS => ?_
  refine reglS fun K6 hK6 => ?_
  refine lQ hF hS (mQ rfl <| mQ rfl <| mQ rfl <| q0 (q_cv_ib ty3 ty5 rfl) <| q0 (q_idx_slb ty25 ty5 rfl rfl (by omega)) <| sq_end) fun a w hF hS => ?_
  refine eQ hF hS rfl (ef_store1 ty5 0 rfl rfl rfl rfl (by rw [List.length_map, Jn.pw_len (by omega)]; omega)) ?_
  rintro _ _ _ a w ⟨rfl, rfl, rfl⟩ hF hS
  replace hS : St _ (_) (_ :: _) _ := hS
  refine wpList_nil (hK6 _ _ ?_)
  refine reg hF hS (mQ rfl <| q0 (q_shri rfl rfl (by omega)) <| aQ rfl <| sq_end) fun a w hF hS => ?_
  refine hK4 _ _ ?_
  refine reg hF hS (pQ rfl rfl <| mQ rfl <| sq_end) fun a w hF hS => ?_
  refine ⟨(k + 1), ?_, ?_, hF.sub ⟨rfl, (by show some (vi _) = some (vi _); rw [← Jn.dv_step]; rfl), rfl, rfl, trivial⟩, ?_⟩
  ·(try dsimp only); omega
  ·omega
  ·rw [show ((k : Int)).toNat = k from Int.toNat_natCast k, ← List.map_set, Jn.pw_step (by omega)] at hS
   exact hS
 ·refine wp_exit ?_
  -- falls off the end
  obtain rfl : m = k := by omega
  exact fn_retx (rs := []) rfl hF hS (vs := []) trivial [] [_] sQ sQ ⟨rfl, rfl, rfl⟩
theorem backward_ct (v : Value) (hv : v.oneCell' = true) (w : World) : Ct Tryz.prog 145 [v] w (fun r zs hs => ∃ b1, r = .func (.func 168) (List.nil : List Value).toArray [Value.pointer (some ⟨b1, 0, none⟩)].toArray ∧ zs = [] ∧ hs = [.blk b1 25 [v]]) := by
 refine fn_enter Tryz.func145 rfl Tryz.ntmps145 (Nat.le_of_ble_eq_true rfl) fun a hF hS => ?_
 refine reglS fun K1 hK1 => ?_
 refine eQ hF hS rfl (ef_box1 rfl hv) ?_
 rintro _ _ _ a w ⟨b1, rfl, rfl, rfl⟩ hF hS
 refine lQ hF hS (aQ rfl <| sq_end) fun a w hF hS => ?_
 refine wpList_nil (hK1 _ _ ?_)
 refine regS hF hS (q0 (q_mkf rfl rfl) <| aQ rfl <| sq_end) fun a w hF hS => ?_
 refine wp_ret ?_
 exact fn_ret (rs := [.tmp 2]) rfl hF hS (vs := [_]) ⟨rfl, trivial⟩ sQ sQ ⟨_, rfl, rfl, rfl⟩
theorem bwd1_ct (b1 : Nat) (v : Value) (xs : List UInt8) (Y : Value) (z : PH) (w0 : World) (zsr : List PH) (hsr : List Res) (inv : Nat → Res → Prop) (ra : Res) (hz : ZIn w0 zsr z) (hb : Sl encB z v xs) (h0 : inv 0 ra) (hY : ∀ k r, k < xs.length → inv k r → YdL Tryz.prog Y (Jn.bwV xs k) (St w0 zsr (.blk b1 25 [v] :: r :: hsr)) fun w' => ∃ r', inv (k + 1) r' ∧ St w0 zsr (.blk b1 25 [v] :: r' :: hsr) w') : CxH Tryz.prog 168 [Y, Value.pointer (some ⟨b1, 0, none⟩)] w0 zsr [.blk b1 25 [v], ra] hsr (fun _ zs1 hs1 => zs1 = [] ∧ ∃ r : Res, hs1 = [.blk b1 25 [v], r] ∧ inv xs.length r) := by
 refine fn_enterh Tryz.func168 rfl Tryz.ntmps168 (Nat.le_of_ble_eq_true rfl) fun a w hF hS => ?_
 replace hS : St _ (_) (_ :: _ :: _) _ := hS
 have hbl := hb.1
 refine regS hF hS (q0 (q_ld_blk1 ty25 0 rfl rfl rfl rfl) <| q0 (q_len_sl ty25 hb rfl) <| dQ rfl rfl <| aQ rfl <| sq_end) fun a w hF hS => ?_
 refine wp_block ?_
 obtain ⟨hs0, hhs0, hS⟩ := hS.oh
 refine wp_loopx (γ := Res × Nat) (ra, 0) (fun (rr, k) => [(3, vi ((xs.length : Int) - 1 - k))]) [(0, _), (1, _)] (fun (rr, k) => (hs0.set 1 (rr))) (fun (rr, k) => k ≤ xs.length ∧ inv k rr) (fun (rr, k) => xs.length - k) (hF.sub ⟨(by show some (vi _) = some (vi _); congr 2; omega), rfl, rfl, trivial⟩) (by subst hhs0; exact hS) (by exact ⟨Nat.zero_le _, h0⟩) ?_
 rintro ⟨rr, k⟩ a w hfact hF hS
 subst hhs0; (try dsimp only at hfact hF hS)
 obtain ⟨hk0, hin⟩ := hfact
 replace hS : St _ (_) (_ :: _ :: _) _ := hS
 refine k0 ?_; intro K2 hK2
 refine regS hF hS (mQ rfl <| q0 (q_gei rfl rfl) <| sq_end) fun a w hF hS => ?_
 refine wp_ifd hF rfl (fun hc1 => ?_) (fun hc1 => ?_)
 ·refine wp_skip ?_
  refine hK2 _ _ ?_
  refine k0 ?_; intro K4 hK4
  refine wp_block ?_
  refine k0 ?_; intro K5 hK5
  refine regY 6 rfl ?_
  refine lQ hF hS (mQ rfl <| mQ rfl <| q0 (q_ld_blk1 ty25 0 rfl rfl rfl rfl) <| mQ rfl <| q0 (q_idx_sl ty25 ty5 hb rfl rfl (by omega)) <| q0 (q_ld_B ty5 hb hz rfl rfl (by omega)) <| sq_end) fun a w hF hS => ?_
  refine listR ?_
  ·skip
   have hyd := hY k rr (by omega) hin
   refine ycallL (ys := [_, _]) (by rfl) rfl hF hS rfl rfl hyd ?_
   rintro a w hF ⟨r2, hin2, hS⟩
   refine yseg rfl hF hS (q0 (q_not rfl) <| sq_end) fun a w hF hS => ?_
   refine wpListIn_nil ?_
   refine hK5 _ _ ?_
   refine wp_if hF rfl (fun h => absurd h (by simp)) (fun _ => ?_)
   refine wp_skip ?_
   refine hK4 _ _ ?_
   refine reg hF hS (mQ rfl <| dQ rfl rfl <| aQ rfl <| sq_end) fun a w hF hS => ?_
   refine ⟨(r2, k + 1), ?_, ?_, hF.sub ⟨(by show some (vi _) = some (vi _); congr 2; omega), rfl, rfl, trivial⟩, ?_⟩
   ·(try dsimp only); omega
   ·exact ⟨by omega, hin2⟩
   ·exact hS
 ·obtain rfl : k = xs.length := by omega
  refine wp_exit ?_
  -- falls off the end
  exact fn_fallx rfl hF hS [] [_, _] sQ sQ ⟨rfl, _, rfl, hin⟩
theorem get_ct (v : Value) (xs : List UInt8) (hx : xs.length ≤ 4) (w : World) (hb : Sl encB (ph w) v xs) : Ct Tryz.prog 102 [v] w (fun r _ _ => r = vi (Jn.nb xs : Int)) := by
 refine fn_enterM Tryz.func102 rfl Tryz.ntmps102 (Nat.le_of_ble_eq_true rfl) fun a hF hS => ?_
 have hbl := hb.1
 refine regS hF hS (aQ rfl <| sq_end) fun a w hF hS => ?_
 refine reglS fun K2 hK2 => ?_
 refine eQ hF hS rfl (ef_alloc1 ty3 (by rfl)) ?_
 rintro _ _ _ a w ⟨b1, rfl, rfl, rfl⟩ hF hS
 refine eQ hF hS rfl (ef_store1 ty3 0 rfl rfl rfl rfl (by simp)) ?_
 rintro _ _ _ a w ⟨rfl, rfl, rfl⟩ hF hS
 (try simp only [List.set_cons_zero, List.set_cons_succ] at hS)
 replace hS := nl0_1 hS
 refine wpList_nil (hK2 _ _ ?_)
 refine k0 ?_; intro K3 hK3
 refine reglS fun K4 hK4 => ?_
 refine lQ hF hS (mQ rfl <| sq_end) fun a w hF hS => ?_
 refine eQ hF hS rfl (ef_call fn145 rfl (fun w hS => backward_ct _ (sl_one' hb) w )) ?_
 rintro _ _ _ a w ⟨_, _, rfl, rfl, ⟨e1, rfl, rfl, rfl⟩⟩ hF hS
 replace hS := nl0_2 hS
 refine wpList_nil (hK4 _ _ ?_)
 refine wp_block ?_
 replace hS := nl0_2 hS
 obtain ⟨hs0, hhs0, hS⟩ := hS.oh
 obtain ⟨L0, hL0, hF⟩ : ∃ l, l = _ ∧ Fr _ l _ := ⟨_, rfl, hF⟩
 refine wp_rangeH (ps := [8, 9]) (γ := Res) (ξ := Unit) (fun r => hs0.set 1 r) (fun (k : Nat) (r : Res) => r = .blk b1 3 [vi (Jn.nb (xs.drop (xs.length - k)) : Int)]) (xs.length) (fun k => Jn.bwV xs k) (.blk b1 3 [vi 0]) (fun k r x => (5, vb (xs.getD ((xs.length : Int) - 1 - k).toNat 0)) :: (9, vb (xs.getD ((xs.length : Int) - 1 - k).toNat 0)) :: (8, vi ((xs.length : Int) - 1 - k)) :: L0) (fun k r x => hs0.set 1 r) hF (by subst hhs0; exact hS) (by subst hL0; rfl) rfl (fun _ => rfl) (fn168) (by rw [Nat.sub_zero, Jn.nb_end]; rfl) (fun ro m8 zB zD k9 r9 a w hk9 hi9 hF hS => ?_) (fun Y zs1 hzz hY w hS => ?_) (fun l9 m9 zB zD k9 r9 x9 a w hk9 hi9 hF hS => ?_) (fun I D zD a w r9 hno hI hD hi9 hF hS => ?_)
 ·subst hhs0 hL0
  (try dsimp only [argsL] at hF); (try dsimp only [List.set_cons_zero, List.set_cons_succ] at hS)
  replace hS : St _ [_, _] [_, _] _ := hS
  subst hi9
  have hbd9 := Jn.nb_bd hx (xs.length - k9)
  have hsh9 : (Jn.nb (xs.drop (xs.length - k9)) : Int) * 2 ^ (min (Int.toNat 8) 64) = (Jn.nb (xs.drop (xs.length - k9)) : Int) * 256 := rfl
  replace hS : St _ [_, _] [_, _] _ := hS
  refine regR (by rfl) hF hS (aQ rfl <| sq_end) fun a w hF hS => ?_
  exact ⟨rfl, (), hF, hS⟩
 ·subst hhs0 hL0
  exact CxH.full1 (bwd1_ct e1 _ xs Y _ _ zs1 _ (fun k r => r = .blk b1 3 [vi (Jn.nb (xs.drop (xs.length - k)) : Int)]) _ zin0 hb (by rw [Nat.sub_zero, Jn.nb_end]; rfl) hY) w hS
 ·subst hhs0 hL0
  (try dsimp only [argsL] at hF); (try dsimp only [List.set_cons_zero, List.set_cons_succ] at hS)
  replace hS : St _ [_, _] [_, _] _ := hS
  subst hi9
  have hbd9 := Jn.nb_bd hx (xs.length - k9)
  have hsh9 : (Jn.nb (xs.drop (xs.length - k9)) : Int) * 2 ^ (min (Int.toNat 8) 64) = (Jn.nb (xs.drop (xs.length - k9)) : Int) * 256 := rfl
  replace hS : St _ [_, _] [_, _] _ := hS
  refine wpIn_block ?_
  refine reglR (by rfl) ?_
  refine lQ hF hS (q0 (q_ld_blk1 ty3 1 rfl rfl rfl rfl) <| q0 (q_shli rfl rfl (by omega) (by omega)) <| mQ rfl <| q0 (q_cv_bi ty5 ty3 rfl) <| q0 (q_ori rfl rfl) <| sq_end) fun a w hF hS => ?_
  refine eQ hF hS rfl (ef_store1 ty3 1 rfl rfl rfl rfl (by simp)) ?_
  rintro _ _ _ a w ⟨rfl, rfl, rfl⟩ hF hS
  (try simp only [List.set_cons_zero, List.set_cons_succ] at hS)
  replace hS : St _ [_, _] [_, _] _ := hS
  refine listR ?_
  rw [Jn.ior_byte _ _ (Jn.nb_bd hx _), ← Jn.nb_at hk9] at hS
  exact ⟨rfl, _, rfl, hS⟩
 subst hhs0 hL0
 (try dsimp only [argsL] at hF); (try dsimp only [List.set_cons_zero, List.set_cons_succ] at hS)
 replace hS : St _ [_] [_, _] _ := hS
 subst hi9
 replace hS : St _ [_] [_, _] _ := hS
 refine hK3 _ _ ?_
 refine regS hF hS (q0 (q_ld_blk1 ty3 1 rfl rfl rfl rfl) <| aQ rfl <| sq_end) fun a w hF hS => ?_
 refine wp_ret ?_
 rw [Nat.sub_self, List.drop_zero] at hF
 exact fn_retG [] hI hD (by simp) (by simp) (by simp) (rs := [.tmp 2]) rfl hF hS (vs := [_]) ⟨rfl, trivial⟩ (fun W hS => ⟨[], [], hS.keep zQ zQ, rfl⟩)
end
section
theorem ty130 : Tf Tryz.prog 130 (.struct #[⟨ "number", 3, 0, false, "", "culprit/journal", 0⟩, ⟨ "part", 3, 1, false, "", "culprit/journal", 8⟩, ⟨ "left", 3, 2, false, "", "culprit/journal", 16⟩, ⟨ "payload", 9, 3, false, "", "culprit/journal", 24⟩, ⟨ "ok", 4, 4, false, "", "culprit/journal", 40⟩]) 5 48 (.agg ([Value.int .i64 0, Value.int .i64 0, Value.int .i64 0] ++ [Value.string ⟨(List.nil : List UInt8).toArray⟩] ++ [Value.bool false]).toArray) := ⟨Tryz.underlying130, by kernel_rfl⟩
theorem ty174 : Tf Tryz.prog 174 (.array 64 5) 64 64 (.agg (List.replicate 64 (Value.int .u8 0)).toArray) := ⟨Tryz.underlying174, by kernel_rfl⟩
theorem fn67 : FnOk Tryz.prog 67 := fQ Tryz.func67
theorem fn101 : FnOk Tryz.prog 101 := fQ Tryz.func101
theorem fn102 : FnOk Tryz.prog 102 := fQ Tryz.func102
theorem fn103 : FnOk Tryz.prog 103 := fQ Tryz.func103
attribute [local irreducible] Sha.sum Jn.good
theorem unpack_ct (s : List UInt8) (w : World) {fz0 : Nat × Nat} {bt0 : TypeId} (hg0 : w.heap[1]? = some (.cells (Sha.kc.map vw).toArray bt0 fz0)) : Ct Tryz.prog 67 [vs s] w (fun r _ _ => r = Jn.pV (Jn.unp s)) := by
 refine fn_enter Tryz.func67 rfl Tryz.ntmps67 (Nat.le_of_ble_eq_true rfl) fun a hF hS => ?_
 have hsl : ∀ t, (Sha.sum t).length = 32 := Sha.sum_len
 refine reglS fun K1 hK1 => ?_
 refine eQ hF hS rfl (ef_allocA ty130) ?_
 rintro _ _ _ a w ⟨b1, rfl, rfl, rfl⟩ hF hS
 refine wpList_nil (hK1 _ _ ?_)
 refine k0 ?_; intro K2 hK2
 refine regS hF hS (mQ rfl <| q0 (q_len_s ty9 rfl) <| q0 (q_nei rfl rfl) <| sq_end) fun a w hF hS => ?_
 refine wp_ifn hF rfl (fun hc1 => ?_) (fun hc1 => ?_)
 ·refine k0 ?_; intro K4 hK4
  refine regl ?_
  refine lQ hF hS (q0 (q_buildP (places := [(0, 1), (1, 1), (2, 1), (3, 1), (4, 1)]) (cells := [.int .i64 0, .int .i64 0, .int .i64 0, .string ⟨(List.nil : List UInt8).toArray⟩, .bool false]) ty130 kQ rfl (by rfl)) <| sq_end) fun a w hF hS => ?_
  refine eQ hF hS rfl (ef_storeW ty130 0 rfl rfl rfl rfl bQ (oc_cons rfl (oc_cons rfl (oc_cons rfl (oc_cons rfl (oc_cons rfl oc_nil))))) bQ) ?_
  rintro _ _ _ a w ⟨rfl, rfl, rfl⟩ hF hS
  replace hS := nl0_1 hS
  refine wpList_nil (hK4 _ _ ?_)
  refine wp_ret ?_
  exact fn_ret (rs := [.cell 2 130]) rfl hF hS (vs := [_]) ⟨⟨_, _, _, _, _, _, _, rfl, List.mem_of_getElem? (i := 0) rfl, ty130, .inl ⟨rfl, bQ, rfl⟩⟩, trivial⟩ zQ zQ (by rw [Jn.unp_len (by omega)]; rfl)
 ·have h64 : s.length = 64 := by omega
  refine wp_skip ?_
  refine hK2 _ _ ?_
  refine reglS fun K5 hK5 => ?_
  refine lQ hF hS (mQ rfl <| sq_end) fun a w hF hS => ?_
  refine eQ hF hS rfl (ef_s2b ty9 ty25 ty5 rfl (by omega)) ?_
  rintro v2 _ _ a w ⟨z3, rfl, rfl, hz4⟩ hF hS
  refine lQ hF hS (q0 (q_s2ap_sl ty174 hz4 rfl bQ (by decide)) <| q0 (q_ld_B16 ty174 hz4 (.inr (by simp)) rfl rfl bQ (by decide)) <| sq_end) fun a w hF hS => ?_
  refine eQ hF hS rfl (ef_allocA ty174) ?_
  rintro _ _ _ a w ⟨b5, rfl, rfl, rfl⟩ hF hS
  rw [show List.replicate 64 (Value.int .u8 0) = (List.replicate 64 (0 : UInt8)).map vb from by rw [List.map_replicate] <;> rfl] at hS
  refine eQ hF hS rfl (ef_storeW ty174 0 rfl rfl rfl rfl bQ oQ bQ) ?_
  rintro _ _ _ a w ⟨rfl, rfl, rfl⟩ hF hS
  replace hS : St _ [_] [_, _] _ := hS
  refine wpList_nil (hK5 _ _ ?_)
  refine reglS fun K6 hK6 => ?_
  refine lQ hF hS (q0 (q_sla_hi ty174 ty5 rfl rfl (by omega)) <| q0 (q_call fn101 rfl (fun w hS => sum_ct _ _ (by rw [List.length_drop, List.length_take]; omega) w (blk_slO hS 0 rfl (by first | omega | (simp; omega) | (simp [*]; done) | (simp [*]; omega))) (hS.ext _ _ hg0)) (fun _ _ _ h => h)) <| sq_end) fun a w hF hS => ?_
  refine eQ hF hS rfl (ef_allocA ty182) ?_
  rintro _ _ _ a w ⟨b6, rfl, rfl, rfl⟩ hF hS
  rw [show List.replicate 32 (Value.int .u8 0) = (List.replicate 32 (0 : UInt8)).map vb from by rw [List.map_replicate] <;> rfl] at hS
  refine eQ hF hS rfl (ef_storeW ty182 0 rfl rfl rfl rfl bQ oQ bQ) ?_
  rintro _ _ _ a w ⟨rfl, rfl, rfl⟩ hF hS
  replace hS : St _ [_] [_, _, _] _ := hS
  refine wpList_nil (hK6 _ _ ?_)
  refine k0 ?_; intro K7 hK7
  revert hS; revert hF; apply regJ (J := J1 (α0 := Nat) 79 _ _ _ _ _) #[false, false, false, false, false, false, false, false, false] 9 mixed rfl rfl
  ·intro w hF hS
   refine tQ 0 rfl hF (hS.keep sQ (zQ.k.n)) (q_sla_hi ty174 ty5 rfl rfl (by omega)) fun a hF => ?_
   refine tQ 2 rfl hF (hS.keep sQ (zQ.k.n)) (q_sla_lo_hi ty174 ty5 rfl rfl rfl (by omega)) fun a hF => ?_
   refine tQ 4 rfl hF (hS.keep sQ (zQ.k.n)) (q_sla_lo_hi ty174 ty5 rfl rfl rfl (by omega)) fun a hF => ?_
   refine goW_fork [1, 7] kQ rfl ⟨?_, ?_, trivial⟩
   ·refine stepW_ef _ rfl rfl hF hS rfl (ef_qt (q_call fn102 rfl (fun w hS => get_ct _ _ (by rw [List.length_drop, List.length_take]; omega) w (blk_slO hS 1 rfl (by first | omega | (simp; omega) | (simp [*]; done) | (simp [*]; omega)))) (fun _ _ _ h => h))) ?_
    rintro _ _ _ a w ⟨rfl, rfl, rfl⟩ hF hS
    refine ⟨⟨.inr (hS.keep sQ (zQ.k.n)), .inr (hS.keep sQ (zQ.k.n)), iQ, trivial⟩, ?_⟩
    refine goW_fork [3, 7] kQ rfl ⟨?_, ?_, trivial⟩
    ·refine stepW_ef _ rfl rfl hF hS rfl (ef_qt (q_call fn102 rfl (fun w hS => get_ct _ _ (by rw [List.length_drop, List.length_take]; omega) w (blk_slO hS 1 rfl (by first | omega | (simp; omega) | (simp [*]; done) | (simp [*]; omega)))) (fun _ _ _ h => h))) ?_
     rintro _ _ _ a w ⟨rfl, rfl, rfl⟩ hF hS
     refine ⟨⟨.inr (hS.keep sQ (zQ.k.n)), iQ, iQ, trivial⟩, ?_⟩
     refine goW_fork [5, 7] kQ rfl ⟨?_, ?_, trivial⟩
     ·refine stepW_ef _ rfl rfl hF hS rfl (ef_qt (q_call fn102 rfl (fun w hS => get_ct _ _ (by rw [List.length_drop, List.length_take]; omega) w (blk_slO hS 1 rfl (by first | omega | (simp; omega) | (simp [*]; done) | (simp [*]; omega)))) (fun _ _ _ h => h))) ?_
      rintro _ _ _ a w ⟨rfl, rfl, rfl⟩ hF hS
      refine ⟨⟨iQ, iQ, iQ, trivial⟩, ?_⟩
      refine tQ 6 rfl hF (hS.keep sQ zQ) (q_buildP (places := [(0, 1), (1, 1), (2, 1), (3, 1), (4, 1)]) (cells := [_, _, _, .string ⟨(List.nil : List UInt8).toArray⟩, _]) ty130 kQ rfl (by rfl)) fun a hF => ?_
      refine gQ 7 rfl rfl hF hS rfl (ef_allocA ty130) ?_
      rintro _ _ _ a w ⟨b_5_7, rfl, rfl, rfl⟩ hF hS
      refine ⟨⟨.inr (hS.keep sQ zQ), iQ, iQ, iQ, trivial⟩, ?_⟩
      refine gQ 8 rfl rfl hF hS rfl (ef_storeW ty130 0 rfl rfl rfl rfl bQ (oc_cons rfl (oc_cons rfl (oc_cons rfl (oc_cons rfl (oc_cons rfl oc_nil))))) bQ) ?_
      rintro _ _ _ a w ⟨rfl, rfl, rfl⟩ hF hS
      refine ⟨⟨iQ, iQ, iQ, iQ, trivial⟩, ?_⟩
      exact goW_done kQ (j1_mk b_5_7 (trivial) (hF.sub (L' := [(0, _), (2, _), (3, _), (4, _), (5, _)]) ⟨rfl, rfl, rfl, rfl, rfl, trivial⟩) hS)
     ·refine stepW_ef _ rfl rfl hF hS rfl (ef_allocA ty130) ?_
      rintro _ _ _ a w ⟨b_5_7, rfl, rfl, rfl⟩ hF hS
      refine ⟨⟨.inr (hS.keep sQ (zQ.k.n.n)), iQ, iQ, trivial⟩, ?_⟩
      refine gQ 5 rfl rfl hF hS rfl (ef_qt (q_call fn102 rfl (fun w hS => get_ct _ _ (by rw [List.length_drop, List.length_take]; omega) w (blk_slO hS 2 rfl (by first | omega | (simp; omega) | (simp [*]; done) | (simp [*]; omega)))) (fun _ _ _ h => h))) ?_
      rintro _ _ _ a w ⟨rfl, rfl, rfl⟩ hF hS
      refine ⟨⟨iQ, iQ, iQ, trivial⟩, ?_⟩
      refine tQ 6 rfl hF (hS.keep sQ zQ) (q_buildP (places := [(0, 1), (1, 1), (2, 1), (3, 1), (4, 1)]) (cells := [_, _, _, .string ⟨(List.nil : List UInt8).toArray⟩, _]) ty130 kQ rfl (by rfl)) fun a hF => ?_
      refine gQ 8 rfl rfl hF hS rfl (ef_storeW ty130 0 rfl rfl rfl rfl bQ (oc_cons rfl (oc_cons rfl (oc_cons rfl (oc_cons rfl (oc_cons rfl oc_nil))))) bQ) ?_
      rintro _ _ _ a w ⟨rfl, rfl, rfl⟩ hF hS
      refine ⟨⟨iQ, iQ, iQ, iQ, trivial⟩, ?_⟩
      exact goW_done kQ (j1_mk b_5_7 (trivial) (hF.sub (L' := [(0, _), (2, _), (3, _), (4, _), (5, _)]) ⟨rfl, rfl, rfl, rfl, rfl, trivial⟩) hS)
    ·refine stepW_ef _ rfl rfl hF hS rfl (ef_allocA ty130) ?_
     rintro _ _ _ a w ⟨b_5_7, rfl, rfl, rfl⟩ hF hS
     refine ⟨⟨.inr (hS.keep sQ (zQ.k.n.n)), .inr (hS.keep sQ (zQ.k.n.n)), iQ, trivial⟩, ?_⟩
     refine gQ 3 rfl rfl hF hS rfl (ef_qt (q_call fn102 rfl (fun w hS => get_ct _ _ (by rw [List.length_drop, List.length_take]; omega) w (blk_slO hS 2 rfl (by first | omega | (simp; omega) | (simp [*]; done) | (simp [*]; omega)))) (fun _ _ _ h => h))) ?_
     rintro _ _ _ a w ⟨rfl, rfl, rfl⟩ hF hS
     refine ⟨⟨.inr (hS.keep sQ (zQ.k.n.n)), iQ, iQ, trivial⟩, ?_⟩
     refine gQ 5 rfl rfl hF hS rfl (ef_qt (q_call fn102 rfl (fun w hS => get_ct _ _ (by rw [List.length_drop, List.length_take]; omega) w (blk_slO hS 2 rfl (by first | omega | (simp; omega) | (simp [*]; done) | (simp [*]; omega)))) (fun _ _ _ h => h))) ?_
     rintro _ _ _ a w ⟨rfl, rfl, rfl⟩ hF hS
     refine ⟨⟨iQ, iQ, iQ, trivial⟩, ?_⟩
     refine tQ 6 rfl hF (hS.keep sQ zQ) (q_buildP (places := [(0, 1), (1, 1), (2, 1), (3, 1), (4, 1)]) (cells := [_, _, _, .string ⟨(List.nil : List UInt8).toArray⟩, _]) ty130 kQ rfl (by rfl)) fun a hF => ?_
     refine gQ 8 rfl rfl hF hS rfl (ef_storeW ty130 0 rfl rfl rfl rfl bQ (oc_cons rfl (oc_cons rfl (oc_cons rfl (oc_cons rfl (oc_cons rfl oc_nil))))) bQ) ?_
     rintro _ _ _ a w ⟨rfl, rfl, rfl⟩ hF hS
     refine ⟨⟨iQ, iQ, iQ, iQ, trivial⟩, ?_⟩
     exact goW_done kQ (j1_mk b_5_7 (trivial) (hF.sub (L' := [(0, _), (2, _), (3, _), (4, _), (5, _)]) ⟨rfl, rfl, rfl, rfl, rfl, trivial⟩) hS)
   ·refine stepW_ef _ rfl rfl hF hS rfl (ef_allocA ty130) ?_
    rintro _ _ _ a w ⟨b_5_7, rfl, rfl, rfl⟩ hF hS
    refine ⟨⟨.inr (hS.keep sQ (zQ.k.n.n)), .inr (hS.keep sQ (zQ.k.n.n)), .inr (hS.keep sQ (zQ.k.n.n)), trivial⟩, ?_⟩
    refine gQ 1 rfl rfl hF hS rfl (ef_qt (q_call fn102 rfl (fun w hS => get_ct _ _ (by rw [List.length_drop, List.length_take]; omega) w (blk_slO hS 2 rfl (by first | omega | (simp; omega) | (simp [*]; done) | (simp [*]; omega)))) (fun _ _ _ h => h))) ?_
    rintro _ _ _ a w ⟨rfl, rfl, rfl⟩ hF hS
    refine ⟨⟨.inr (hS.keep sQ (zQ.k.n.n)), .inr (hS.keep sQ (zQ.k.n.n)), iQ, trivial⟩, ?_⟩
    refine gQ 3 rfl rfl hF hS rfl (ef_qt (q_call fn102 rfl (fun w hS => get_ct _ _ (by rw [List.length_drop, List.length_take]; omega) w (blk_slO hS 2 rfl (by first | omega | (simp; omega) | (simp [*]; done) | (simp [*]; omega)))) (fun _ _ _ h => h))) ?_
    rintro _ _ _ a w ⟨rfl, rfl, rfl⟩ hF hS
    refine ⟨⟨.inr (hS.keep sQ (zQ.k.n.n)), iQ, iQ, trivial⟩, ?_⟩
    refine gQ 5 rfl rfl hF hS rfl (ef_qt (q_call fn102 rfl (fun w hS => get_ct _ _ (by rw [List.length_drop, List.length_take]; omega) w (blk_slO hS 2 rfl (by first | omega | (simp; omega) | (simp [*]; done) | (simp [*]; omega)))) (fun _ _ _ h => h))) ?_
    rintro _ _ _ a w ⟨rfl, rfl, rfl⟩ hF hS
    refine ⟨⟨iQ, iQ, iQ, trivial⟩, ?_⟩
    refine tQ 6 rfl hF (hS.keep sQ zQ) (q_buildP (places := [(0, 1), (1, 1), (2, 1), (3, 1), (4, 1)]) (cells := [_, _, _, .string ⟨(List.nil : List UInt8).toArray⟩, _]) ty130 kQ rfl (by rfl)) fun a hF => ?_
    refine gQ 8 rfl rfl hF hS rfl (ef_storeW ty130 0 rfl rfl rfl rfl bQ (oc_cons rfl (oc_cons rfl (oc_cons rfl (oc_cons rfl (oc_cons rfl oc_nil))))) bQ) ?_
    rintro _ _ _ a w ⟨rfl, rfl, rfl⟩ hF hS
    refine ⟨⟨iQ, iQ, iQ, iQ, trivial⟩, ?_⟩
    exact goW_done kQ (j1_mk b_5_7 (trivial) (hF.sub (L' := [(0, _), (2, _), (3, _), (4, _), (5, _)]) ⟨rfl, rfl, rfl, rfl, rfl, trivial⟩) hS)
  rintro a w ⟨b_5_7, -, hF, hS⟩
  (try dsimp only at hF hS)
  replace hS : St _ [_] [.blk b_5_7 130 [vi (Jn.num s : Int), vi (Jn.par s : Int), vi (Jn.lft s : Int), vs [], .bool true], _, _, _] _ := hS
  obtain ⟨hnr, hpr, hlr⟩ := Jn.rng s
  have hin := Jn.inn_le s
  refine hK7 _ _ ?_
  refine k0 ?_; intro K8 hK8
  refine reg hF hS (q0 (q_fieldAddr ty130 rfl rfl (s' := 0) kQ) <| q0 (q_ld_blk1 ty3 0 rfl rfl rfl rfl) <| q0 (q_min rfl rfl) <| aQ rfl <| sq_end) fun a w hF hS => ?_
  rw [show (min (Jn.lft s : Int) 48) = ((Jn.inn s : Nat) : Int) by unfold Jn.inn; omega] at hF
  refine hK8 _ _ ?_
  refine reglS fun K9 hK9 => ?_
  refine lQ hF hS (mQ rfl <| q0 (q_subi_to (r := ((48 - Jn.inn s : Nat) : Int)) rfl rfl (by omega) (by omega)) <| sq_end) fun a w hF hS => ?_
  refine eQ hF hS rfl (ef_mks ty25 ty5 rfl rfl bQ bQ rfl) ?_
  rintro v7 _ _ a w ⟨rfl, rfl⟩ hF hS
  replace hS := nl1_5 hS
  refine lQ hF hS (aQ rfl <| sq_end) fun a w hF hS => ?_
  refine wpList_nil ?_
  rw [show List.replicate (48 - Jn.inn s) (Value.int .u8 0) = (List.replicate (48 - Jn.inn s) (0 : UInt8)).map vb from by rw [List.map_replicate]; rfl] at hS
  refine hK9 _ _ ?_
  refine k0 ?_; intro K10 hK10
  refine k0 ?_; intro K11 hK11
  refine regq mixed kQ hS ?_
  refine wpq_seg hF (q0 (q_sla_hi ty182 ty5 rfl rfl (by omega)) <| q0 (q_sla_lo ty174 ty5 rfl rfl (by omega)) <| q0 (q_call fn103 rfl (fun w hS => beq_ct _ _ _ _ w (blk_slO hS 2 rfl (by first | omega | (simp; omega) | (simp [*]; done) | (simp [*]; omega))) (blk_slO hS 3 rfl (by first | omega | (simp; omega) | (simp [*]; done) | (simp [*]; omega)))) (fun _ _ _ h => h)) <| q0 (q_not rfl) <| mQ rfl <| sq_end) fun a hF => ?_
  refine wpq_or 4 35 3 hF rfl rfl rfl rfl rfl (fun hg => have hg := (nd_false hg); sq_go 35 rfl rfl rfl (q_fieldAddr ty130 rfl rfl (s' := 0) kQ) <| sq_go 35 rfl rfl rfl (q_ld_blk1 ty3 1 rfl rfl rfl rfl) <| sq_go 35 rfl rfl rfl (q_eqi rfl rfl) <| sq_end) rfl rfl fun a hF => ?_
  refine wpq_seg hF (mQ rfl <| sq_end) fun a hF => ?_
  refine wpq_or 9 40 3 hF rfl rfl rfl rfl rfl (fun hg => have hg := hg; sq_go 40 rfl rfl rfl (q_fieldAddr ty130 rfl rfl (s' := 0) kQ) <| sq_go 40 rfl rfl rfl (q_ld_blk1 ty3 1 rfl rfl rfl rfl) <| sq_go 40 rfl rfl rfl (q_gti rfl rfl) <| sq_end) rfl rfl fun a hF => ?_
  refine wpq_seg hF (mQ rfl <| sq_end) fun a hF => ?_
  refine wpq_or 14 45 7 hF rfl rfl rfl rfl rfl (fun hg => have hg := hg; sq_go 45 rfl rfl rfl (q_fieldAddr ty130 rfl rfl (s' := 0) kQ) <| sq_go 45 rfl rfl rfl (q_ld_blk1 ty3 1 rfl rfl rfl rfl) <| sq_go 45 rfl rfl rfl (q_muli rfl rfl (by omega)) <| sq_go 45 rfl rfl rfl (q_fieldAddr ty130 rfl rfl (s' := 0) kQ) <| sq_go 45 rfl rfl rfl (q_ld_blk1 ty3 1 rfl rfl rfl rfl) <| sq_go 45 rfl rfl rfl (q_addi rfl rfl (by omega)) <| sq_go 45 rfl rfl rfl (q_gti rfl rfl) <| sq_end) rfl rfl fun a hF => ?_
  refine wpq_seg hF (mQ rfl <| sq_end) fun a hF => ?_
  refine wpq_orG (q := (decide ((Jn.lft s : Int) = 0) && decide ((0 : Int) < (Jn.par s : Int)))) 54 8 hF rfl (by rfl) rfl (by exact trivial) (fun _ => sq_skip 54 rfl rfl rfl rfl <| sq_skip 54 rfl rfl rfl rfl <| sq_skip 54 rfl rfl rfl rfl <| sq_skip 54 rfl rfl rfl rfl <| sq_skipu 58 rfl rfl rfl <| sq_skipu 58 rfl rfl rfl <| sq_skipu 58 rfl rfl rfl <| sq_skip 54 rfl rfl rfl rfl <| sq_end) rfl (fun hg a hF KG => ?_) ?_
  ·have hg := hg
   refine wpq_seg hF (sq_go 54 rfl rfl rfl (q_fieldAddr ty130 rfl rfl (s' := 0) kQ) <| sq_go 54 rfl rfl rfl (q_ld_blk1 ty3 1 rfl rfl rfl rfl) <| sq_go 54 rfl rfl rfl (q_eqi rfl rfl) <| sq_go 54 rfl rfl rfl (q_move rfl) <| sq_end) fun a hF => ?_
   refine wpq_andP 27 58 3 23 54 hF rfl rfl rfl rfl rfl rfl rfl (fun hg => have hg := (by first | exact of_decide_eq_true hg | exact hg); sq_go 58 rfl rfl rfl (q_fieldAddr ty130 rfl rfl (s' := 0) kQ) <| sq_go 58 rfl rfl rfl (q_ld_blk1 ty3 1 rfl rfl rfl rfl) <| sq_go 58 rfl rfl rfl (q_gti rfl rfl) <| sq_end) rfl rfl fun a hF => ?_
   refine wpq_seg hF (q0 (q_pick_f rfl rfl) <| sq_end) fun a hF => ?_
   exact KG _ (hF.under 5 rfl rfl)
  clear hF; intro a hF
  refine wpq_seg hF (mQ rfl <| sq_end) fun a hF => ?_
  refine wpq_or 33 64 6 hF rfl rfl rfl rfl rfl (fun hg => have hg := hg; sq_go 64 rfl rfl rfl (q_move rfl) <| sq_go 64 rfl rfl rfl (q_addi rfl rfl (by omega)) <| sq_go 64 rfl rfl rfl (q_sla_lo_hi ty174 ty5 rfl rfl rfl (by omega)) <| sq_go 64 rfl rfl rfl (q_move rfl) <| sq_go 64 rfl rfl rfl (q_call fn103 rfl (fun w hS => beq_ct _ _ _ _ w (blk_slO hS 3 rfl (by first | omega | (simp; omega) | (simp [*]; done) | (simp [*]; omega))) (own_slV (hS.own _ (List.mem_of_getElem? (i := 0) rfl)).1 (by first | assumption | (simp; done)) (by first | rfl | (simp; done) | (simp; omega) | omega) (by first | omega | (simp; omega)))) (fun _ _ _ h => h)) <| sq_go 64 rfl rfl rfl (q_not rfl) <| sq_end) rfl rfl fun a hF => ?_
  refine wpq_nil ?_
  clear hS; intro w hS
  refine hK11 _ _ ?_
  refine wp_if hF rfl (fun hc2 => ?_) (fun hc2 => ?_)
  ·(try simp only [bS] at hc2)
   refine reglS fun K12 hK12 => ?_
   refine lQ hF hS (q0 (q_buildP (places := [(0, 1), (1, 1), (2, 1), (3, 1), (4, 1)]) (cells := [.int .i64 0, .int .i64 0, .int .i64 0, .string ⟨(List.nil : List UInt8).toArray⟩, .bool false]) ty130 kQ rfl (by rfl)) <| sq_end) fun a w hF hS => ?_
   refine eQ hF hS rfl (ef_storeW ty130 4 rfl rfl rfl rfl bQ (oc_cons rfl (oc_cons rfl (oc_cons rfl (oc_cons rfl (oc_cons rfl oc_nil))))) bQ) ?_
   rintro _ _ _ a w ⟨rfl, rfl, rfl⟩ hF hS
   replace hS := nl1_5 hS
   refine wpList_nil (hK12 _ _ ?_)
   refine wp_ret ?_
   exact fn_ret (rs := [.cell 2 130]) rfl hF hS (vs := [_]) ⟨⟨_, _, _, _, _, _, _, rfl, List.mem_of_getElem? (i := 4) rfl, ty130, .inl ⟨rfl, bQ, rfl⟩⟩, trivial⟩ zQ zQ (by rw [Jn.unp_bad (Jn.bad_of h64 hc2)]; rfl)
  ·(try simp only [bS] at hc2)
   refine wp_skip ?_
   refine hK10 _ _ ?_
   refine reglS fun K13 hK13 => ?_
   refine lQ hF hS (mQ rfl <| mQ rfl <| pQ rfl rfl <| q0 (q_sl_s ty9 rfl rfl rfl (by omega)) <| q0 (q_fieldAddr ty130 rfl rfl (s' := 0) kQ) <| sq_end) fun a w hF hS => ?_
   refine eQ hF hS rfl (ef_store1 ty9 1 rfl rfl rfl rfl (by simp)) ?_
   rintro _ _ _ a w ⟨rfl, rfl, rfl⟩ hF hS
   replace hS : St _ [_] [_, .blk _ _ ([_, _, _, _, _].set 3 _), _, _, _] _ := hS
   simp only [List.set_cons_zero, List.set_cons_succ] at hS
   replace hS := nl1_5 hS
   refine wpList_nil (hK13 _ _ ?_)
   refine reglS fun K14 hK14 => ?_
   refine lQ hF hS (q0 (q_ld_blkW ty130 1 rfl rfl bQ rfl) <| sq_end) fun a w hF hS => ?_
   refine eQ hF hS rfl (ef_storeW ty130 4 rfl rfl rfl rfl bQ (oc_cons rfl (oc_cons rfl (oc_cons rfl (oc_cons rfl (oc_cons rfl oc_nil))))) bQ) ?_
   rintro _ _ _ a w ⟨rfl, rfl, rfl⟩ hF hS
   replace hS := nl1_5 hS
   refine wpList_nil (hK14 _ _ ?_)
   refine wp_ret ?_
   exact fn_ret (rs := [.cell 2 130]) rfl hF hS (vs := [_]) ⟨⟨_, _, _, _, _, _, _, rfl, List.mem_of_getElem? (i := 4) rfl, ty130, .inl ⟨rfl, bQ, rfl⟩⟩, trivial⟩ zQ zQ (by rw [Jn.unp_good (Jn.good_of h64 hc2), show (8 + (Jn.inn s : Int)).toNat = 8 + Jn.inn s by omega]; rfl)
end
section
theorem fn27 : FnOk Tryz.prog 27 := fQ Tryz.func27
theorem fn149 : FnOk Tryz.prog 149 := fQ Tryz.func149
theorem fn180 : FnOk Tryz.prog 180 := fQ Tryz.func180
theorem fn181 : FnOk Tryz.prog 181 := fQ Tryz.func181
attribute [local irreducible] Sha.sum Jn.good Jn.hd Jn.lb
theorem parts_ct (n : Int) (t : List UInt8) (w : World) : Ct Tryz.prog 149 [vi n, vs t] w (fun r zs hs => ∃ b1 b2, r = .func (.func 180) (List.nil : List Value).toArray [Value.pointer (some ⟨b1, 0, none⟩), Value.pointer (some ⟨b2, 0, none⟩)].toArray ∧ zs = [] ∧ hs = [.blk b1 9 [vs t], .blk b2 3 [vi n]]) := by
 refine fn_enter Tryz.func149 rfl Tryz.ntmps149 (Nat.le_of_ble_eq_true rfl) fun a hF hS => ?_
 refine reglS fun K1 hK1 => ?_
 refine eQ hF hS rfl (ef_box1 rfl rfl) ?_
 rintro _ _ _ a w ⟨b1, rfl, rfl, rfl⟩ hF hS
 refine eQ hF hS rfl (ef_box1 rfl rfl) ?_
 rintro _ _ _ a w ⟨b2, rfl, rfl, rfl⟩ hF hS
 refine lQ hF hS (aQ rfl <| sq_end) fun a w hF hS => ?_
 refine wpList_nil (hK1 _ _ ?_)
 refine regS hF hS (q0 (q_mkf rfl rfl) <| aQ rfl <| sq_end) fun a w hF hS => ?_
 refine wp_ret ?_
 exact fn_ret (rs := [.tmp 4]) rfl hF hS (vs := [_]) ⟨rfl, trivial⟩ sQ sQ ⟨_, _, rfl, rfl, rfl⟩
theorem parts1_ct (x1 x2 : Nat) (t : List UInt8) (n : Nat) (hn : n < 9223372036854775808) (ht : t.length ≤ 8000) (Y : Value) (w0 : World) (zsr : List PH) (hsr : List Res) (inv : Nat → Res × Res → Prop) (ra rb : Res) {fz0 : Nat × Nat} {bt0 : TypeId} (hg0 : w0.heap[1]? = some (.cells (Sha.kc.map vw).toArray bt0 fz0)) (h0 : inv 0 (ra, rb)) (hY : ∀ k r, k < (Jn.cnt t.length).toNat → inv k r → YdL Tryz.prog Y (Jn.ptV n t k) (St w0 zsr (.blk x1 9 [vs t] :: .blk x2 3 [vi (n : Int)] :: r.1 :: r.2 :: hsr)) fun w' => ∃ r', inv (k + 1) r' ∧ St w0 zsr (.blk x1 9 [vs t] :: .blk x2 3 [vi (n : Int)] :: r'.1 :: r'.2 :: hsr) w') : CxH Tryz.prog 180 [Y, Value.pointer (some ⟨x1, 0, none⟩), Value.pointer (some ⟨x2, 0, none⟩)] w0 zsr [.blk x1 9 [vs t], .blk x2 3 [vi (n : Int)], ra, rb] hsr (fun _ zs1 hs1 => zs1 = [] ∧ ∃ r : Res × Res, hs1 = [.blk x1 9 [vs t], .blk x2 3 [vi (n : Int)], r.1, r.2] ∧ inv (Jn.cnt t.length).toNat r) := by
 refine fn_enterh Tryz.func180 rfl Tryz.ntmps180 (Nat.le_of_ble_eq_true rfl) fun a w hF hS => ?_
 replace hS := nt0_4 hS
 have hcr := Jn.cnt_rng t.length
 have hsl : ∀ t, (Sha.sum t).length = 32 := Sha.sum_len
 refine regS hF hS (q0 (q_ld_blk1 ty9 0 rfl rfl rfl rfl) <| q0 (q_len_s ty9 rfl) <| q0 (q_call fn27 rfl (fun w hS => count_ct _ (by first | assumption | omega) w ) (fun _ _ _ h => h)) <| mQ rfl <| sq_end) fun a w hF hS => ?_
 refine wp_block ?_
 obtain ⟨hs0, hhs0, hS⟩ := hS.oh
 refine wp_loopx (γ := (Res × Res) × Nat) ((ra, rb), 0) (fun (rr, k) => [(11, vi (k : Int))]) [(0, _), (1, _), (2, _), (10, _)] (fun (rr, k) => ((hs0.set 2 (rr.1)).set 3 (rr.2))) (fun (rr, k) => k ≤ (Jn.cnt t.length).toNat ∧ inv k rr) (fun (rr, k) => (Jn.cnt t.length).toNat - k) (hF.sub ⟨rfl, rfl, rfl, rfl, rfl, trivial⟩) (by subst hhs0; exact hS) (by exact ⟨Nat.zero_le _, h0⟩) ?_
 rintro ⟨rr, k⟩ a w hfact hF hS
 subst hhs0; (try dsimp only at hfact hF hS)
 obtain ⟨hk0, hin⟩ := hfact
 replace hS := nt0_4 hS
 have hch := Jn.cnt_hi (n := t.length) (by omega)
 refine regS hF hS (q0 (q_lti rfl rfl) <| sq_end) fun a w hF hS => ?_
 refine k0 ?_; intro K3 hK3
 refine wp_ifd hF rfl (fun hc1 => ?_) (fun hc1 => ?_)
 ·refine wp_skip ?_
  refine hK3 _ _ ?_
  refine k0 ?_; intro K4 hK4
  refine wp_block ?_
  refine regS hF hS (mQ rfl <| aQ rfl <| sq_end) fun a w hF hS => ?_
  refine reglS fun K6 hK6 => ?_
  refine eQ hF hS rfl (ef_allocA ty174) ?_
  rintro _ _ _ a w ⟨b1, rfl, rfl, rfl⟩ hF hS
  rw [show List.replicate 64 (Value.int .u8 0) = (List.replicate 64 (0 : UInt8)).map vb from by rw [List.map_replicate] <;> rfl] at hS
  refine wpList_nil (hK6 _ _ ?_)
  refine k0 ?_; intro K7 hK7
  refine reg hF hS (q0 (q_ld_blk1 ty9 1 rfl rfl rfl rfl) <| mQ rfl <| q0 (q_muli rfl rfl (by omega)) <| q0 (q_sl_s_lo ty9 rfl rfl (by omega)) <| aQ rfl <| sq_end) fun a w hF hS => ?_
  rw [show (48 * (k : Int)).toNat = 48 * k by omega] at hF
  obtain ⟨rest, hrest⟩ : ∃ r, r = List.drop (48 * k) t := ⟨_, rfl⟩
  rw [← hrest] at hF
  have hrl : rest.length ≤ 8000 := by rw [hrest, List.length_drop]; omega
  refine hK7 _ _ ?_
  refine k0 ?_; intro K8 hK8
  refine regt 2 mixed kQ hF hS (q0 (q_sla_hi ty174 ty5 rfl rfl (by omega)) <| q0 (q_ld_blk1 ty3 2 rfl rfl rfl rfl) <| sq_end) fun a w hF hS => ?_
  refine eQ hF hS rfl (ef_callx fn181 rfl (List.Perm.refl _) (by exact (put_ct _ 174 _ _ _ _ (Jn.z 64) (by decide) (by omega) (by first | decide | (simp; done) | (simp [Jn.lb_len, Jn.z]; done)) _ _ ))) ?_
  rintro _ _ _ a w ⟨_, _, rfl, rfl, ⟨rfl, rfl, rfl⟩⟩ hF hS
  replace hS := nt0_5 hS
  refine wpList_nil ?_
  rw [show Jn.pw (Jn.z 64) 0 n (Int.toNat 4) = _ from Jn.mk_1 n] at hS
  refine hK8 _ _ ?_
  refine reglS fun K9 hK9 => ?_
  refine lQ hF hS (q0 (q_sla_lo_hi ty174 ty5 rfl rfl rfl (by omega)) <| mQ rfl <| sq_end) fun a w hF hS => ?_
  refine eQ hF hS rfl (ef_callx fn181 rfl (List.Perm.refl _) (by exact (put_ct _ 174 _ _ _ _ (Jn.lb n 4 ++ Jn.z 60) (by decide) (by omega) (by first | decide | (simp; done) | (simp [Jn.lb_len, Jn.z]; done)) _ _ ))) ?_
  rintro _ _ _ a w ⟨_, _, rfl, rfl, ⟨rfl, rfl, rfl⟩⟩ hF hS
  replace hS := nt0_5 hS
  refine wpList_nil ?_
  rw [show Jn.pw (Jn.lb n 4 ++ Jn.z 60) (0 + Int.toNat 4 * 1) k (Int.toNat 6 - Int.toNat 4) = _ from Jn.mk_2 n k] at hS
  refine hK9 _ _ ?_
  refine reglS fun K10 hK10 => ?_
  refine lQ hF hS (q0 (q_sla_lo_hi ty174 ty5 rfl rfl rfl (by omega)) <| mQ rfl <| q0 (q_len_s ty9 rfl) <| sq_end) fun a w hF hS => ?_
  refine eQ hF hS rfl (ef_callx fn181 rfl (List.Perm.refl _) (by exact (put_ct _ 174 _ _ _ _ (Jn.lb n 4 ++ (Jn.lb k 2 ++ Jn.z 58)) (by decide) (by omega) (by first | decide | (simp; done) | (simp [Jn.lb_len, Jn.z]; done)) _ _ ))) ?_
  rintro _ _ _ a w ⟨_, _, rfl, rfl, ⟨rfl, rfl, rfl⟩⟩ hF hS
  replace hS := nt0_5 hS
  refine wpList_nil ?_
  rw [show Jn.pw (Jn.lb n 4 ++ (Jn.lb k 2 ++ Jn.z 58)) (0 + Int.toNat 6 * 1) rest.length (Int.toNat 8 - Int.toNat 6) = _ from Jn.mk_3 n k rest.length] at hS
  refine hK10 _ _ ?_
  refine reglS fun K11 hK11 => ?_
  refine lQ hF hS (q0 (q_sla_lo_hi ty174 ty5 rfl rfl rfl (by omega)) <| mQ rfl <| sq_end) fun a w hF hS => ?_
  refine eQ hF hS rfl (ef_copyO ty25 ty5 0 rfl rfl rfl (by simp [Jn.lb_len, Jn.z])) ?_
  rintro _ _ _ a w ⟨rfl, rfl, rfl⟩ hF hS
  replace hS := nt0_5 hS
  refine wpList_nil ?_
  rw [show List.take (0 + Int.toNat 8 * 1) (Jn.lb n 4 ++ (Jn.lb k 2 ++ (Jn.lb rest.length 2 ++ Jn.z 56))) ++ List.take (min rest.length (Int.toNat 56 - Int.toNat 8)) rest ++ List.drop (0 + Int.toNat 8 * 1 + min rest.length (Int.toNat 56 - Int.toNat 8)) (Jn.lb n 4 ++ (Jn.lb k 2 ++ (Jn.lb rest.length 2 ++ Jn.z 56))) = _ from Jn.mk_4 n k rest] at hS
  have hhl : (Jn.hd n k rest ++ Jn.z 8).length = 64 := by rw [List.length_append, Jn.hd_len]; rfl
  refine hK11 _ _ ?_
  refine reglS fun K12 hK12 => ?_
  refine lQ hF hS (q0 (q_sla_hi ty174 ty5 rfl rfl (by omega)) <| q0 (q_call fn101 rfl (fun w hS => sum_ct _ _ (by rw [List.length_drop, List.length_take]; omega) w (blk_slO hS 0 rfl (by first | omega | (simp; omega) | (simp [*]; done) | (simp [*]; omega))) (hS.ext _ _ hg0)) (fun _ _ _ h => h)) <| sq_end) fun a w hF hS => ?_
  refine eQ hF hS rfl (ef_allocA ty182) ?_
  rintro _ _ _ a w ⟨b5, rfl, rfl, rfl⟩ hF hS
  rw [show List.replicate 32 (Value.int .u8 0) = (List.replicate 32 (0 : UInt8)).map vb from by rw [List.map_replicate] <;> rfl] at hS
  refine eQ hF hS rfl (ef_storeW ty182 0 rfl rfl rfl rfl bQ oQ bQ) ?_
  rintro _ _ _ a w ⟨rfl, rfl, rfl⟩ hF hS
  replace hS : St _ (_) (_ :: _ :: _ :: _ :: _ :: _ :: _) _ := hS
  refine wpList_nil ?_
  rw [show List.drop 0 (List.take (0 + Int.toNat 56) (Jn.hd n k rest ++ Jn.z 8)) = _ from Jn.mk_5 n k rest] at hS
  refine hK12 _ _ ?_
  refine k0 ?_; intro K13 hK13
  refine regt 2 mixed kQ hF hS (q0 (q_sla_lo ty174 ty5 rfl rfl (by omega)) <| q0 (q_sla ty182 ty5 rfl) <| sq_end) fun a w hF hS => ?_
  refine eQ hF hS rfl (ef_copyBB ty25 ty5 1 0 rfl rfl rfl rfl (by rw [hhl]; decide) (by decide) (by rw [Sha.sum_len]; decide)) ?_
  rintro _ _ _ a w ⟨rfl, rfl, rfl⟩ hF hS
  replace hS : St _ (_) (_ :: _ :: _ :: _ :: _ :: _ :: _) _ := hS
  refine wpList_nil ?_
  rw [show List.take (0 + Int.toNat 56 * 1) (Jn.hd n k rest ++ Jn.z 8) ++ List.take (64 - Int.toNat 56) (Sha.sum (Jn.hd n k rest)) ++ List.drop (0 + Int.toNat 56 * 1 + (64 - Int.toNat 56)) (Jn.hd n k rest ++ Jn.z 8) = _ from Jn.mk_6 n k rest, show Jn.chk (Jn.hd n k rest) = Jn.sec n t k by rw [hrest]; unfold Jn.sec; rw [Int.toNat_natCast]] at hS
  have hsc := Jn.sec_len n t k
  refine hK13 _ _ ?_
  refine k0 ?_; intro K14 hK14
  refine regY 2 rfl ?_
  refine lQ hF hS (mQ rfl <| q0 (q_ld_blkW ty174 1 rfl rfl bQ rfl) <| sq_end) fun a w hF hS => ?_
  refine listR ?_
  ·skip
   replace hS := hS.keep sQ (sQ.n.n)
   have hyd := hY k rr (by omega) hin
   refine ycallL (ys := [_]) (by rfl) rfl hF hS rfl rfl hyd ?_
   rintro a w hF ⟨r2, hin2, hS⟩
   refine yseg rfl hF hS (q0 (q_not rfl) <| sq_end) fun a w hF hS => ?_
   refine wpListIn_nil ?_
   refine hK14 _ _ ?_
   refine wp_if hF rfl (fun h => absurd h (by simp)) (fun _ => ?_)
   refine wp_skip ?_
   refine hK4 _ _ ?_
   refine reg hF hS (pQ rfl rfl <| mQ rfl <| sq_end) fun a w hF hS => ?_
   refine ⟨(r2, k + 1), ?_, ?_, hF.sub ⟨rfl, rfl, rfl, rfl, rfl, trivial⟩, ?_⟩
   ·(try dsimp only); omega
   ·exact ⟨by omega, hin2⟩
   ·exact hS
 ·refine wp_exit ?_
  -- falls off the end
  obtain rfl : k = (Jn.cnt t.length).toNat := by omega
  exact fn_fallx rfl hF hS [] [_, _, _, _] sQ sQ ⟨rfl, _, rfl, hin⟩
theorem pack_ct (n : Int) (t : List UInt8) (hn : -9223372036854775808 ≤ n ∧ n ≤ 9223372036854775807) (w : World) {fz0 : Nat × Nat} {bt0 : TypeId} (hg0 : w.heap[1]? = some (.cells (Sha.kc.map vw).toArray bt0 fz0)) : Ct Tryz.prog 109 [vi n, vs t] w (Jn.PkR 9 (Jn.pack n t)) := by
 refine fn_enterM Tryz.func109 rfl Tryz.ntmps109 (Nat.le_of_ble_eq_true rfl) fun a hF hS => ?_
 have hcr := Jn.cnt_rng t.length
 refine regS hF hS (aQ rfl <| aQ rfl <| sq_end) fun a w hF hS => ?_
 refine k0 ?_; intro K2 hK2
 refine wp_block ?_
 refine reglS fun K3 hK3 => ?_
 refine lQ hF hS (mQ rfl <| q0 (q_lti rfl rfl) <| mQ rfl <| sq_end) fun a w hF hS => ?_
 refine wpl_or 2 11 2 hF hS rfl rfl rfl rfl rfl (fun hg => have hg := (by first | exact of_decide_eq_false hg | exact hg); sq_go 11 rfl rfl rfl (q_move rfl) <| sq_go 11 rfl rfl rfl (q_gti rfl rfl) <| sq_end) rfl rfl fun a w hF hS => ?_
 refine lQ hF hS (aQ rfl <| sq_end) fun a w hF hS => ?_
 refine wpList_nil (hK3 _ _ ?_)
 refine wp_if hF rfl (fun hc1 => ?_) (fun hc1 => ?_)
 ·(try simp only [bS] at hc1)
  refine regS hF hS (aQ rfl <| aQ rfl <| sq_end) fun a w hF hS => ?_
  refine wp_ret ?_
  replace hS := hS.nilRow 9 1
  exact fn_retM (rs := [.tmp 4, .tmp 5]) rfl hF hS (vs := [_, _]) ⟨rfl, rfl, trivial⟩ zQ ((zQ.k)) (Jn.pk_of ⟨_, rfl, rfl, rfl⟩ (by rw [Jn.pack_1 (by omega)]))
 ·(try simp only [bS] at hc1)
  refine regS hF hS (mQ rfl <| q0 (q_len_s ty9 rfl) <| q0 (q_gti rfl rfl) <| aQ rfl <| sq_end) fun a w hF hS => ?_
  refine wp_ifd hF rfl (fun hc2 => ?_) (fun hc2 => ?_)
  ·refine k0 ?_; intro K6 hK6
   refine reg hF hS (aQ rfl <| aQ rfl <| sq_end) fun a w hF hS => ?_
   refine hK6 _ _ ?_
   refine wp_ret ?_
   replace hS := hS.nilRow 9 1
   exact fn_retM (rs := [.tmp 4, .tmp 5]) rfl hF hS (vs := [_, _]) ⟨rfl, rfl, trivial⟩ zQ ((zQ.k)) (Jn.pk_of ⟨_, rfl, rfl, rfl⟩ (by rw [Jn.pack_2 (by omega) (by omega)]))
  ·refine wp_skip ?_
   refine hK2 _ _ ?_
   refine reglS fun K7 hK7 => ?_
   refine eQ hF hS rfl (ef_alloc1 ty40 (by rfl)) ?_
   rintro _ _ _ a w ⟨b1, rfl, rfl, rfl⟩ hF hS
   refine wpList_nil (hK7 _ _ ?_)
   refine k0 ?_; intro K8 hK8
   refine reglS fun K9 hK9 => ?_
   refine lQ hF hS (mQ rfl <| mQ rfl <| sq_end) fun a w hF hS => ?_
   refine eQ hF hS rfl (ef_call fn149 rfl (fun w hS => parts_ct _ _ w )) ?_
   rintro _ _ _ a w ⟨_, _, rfl, rfl, ⟨e1, e2, rfl, rfl, rfl⟩⟩ hF hS
   replace hS := nl0_3 hS
   refine wpList_nil (hK9 _ _ ?_)
   refine wp_block ?_
   obtain ⟨n0, rfl⟩ : ∃ m : Nat, n = (m : Int) := ⟨n.toNat, by omega⟩
   replace hS := hS.nilRow 9 1
   replace hS := nl0_4 hS
   replace hS := hS.perm (.swap _ _ _)
   replace hS := hS.perm (.cons _ (.swap _ _ _))
   replace hS := hS.perm P2_2
   replace hS := nl0_4 hS
   obtain ⟨hs0, hhs0, hS⟩ := hS.oh
   obtain ⟨L0, hL0, hF⟩ : ∃ l, l = _ ∧ Fr _ l _ := ⟨_, rfl, hF⟩
   refine wp_rangeH (ps := [22]) (γ := (Res × Res)) (ξ := Nat) (fun r => (hs0.set 2 r.1).set 3 r.2) (fun (k : Nat) (r : Res × Res) => ∃ u, r = (.blk b1 40 [u], .row u 9 1 k ((Jn.secN (n0 : Int) t k).map vs))) ((Jn.cnt t.length).toNat) (fun k => Jn.ptV n0 t k) ((.blk b1 40 [(Value.slice none 0 0)], .row (Value.slice none 0 0) 9 1 0 [])) (fun k r x => (7, Value.pointer (some ⟨x, 0, none⟩)) :: (22, .agg ((Jn.sec (n0 : Int) t k).map vb).toArray) :: L0) (fun k r x => .blk x 174 ((Jn.sec (n0 : Int) t k).map vb) :: (hs0.set 2 r.1).set 3 r.2) hF (by subst hhs0; exact hS) (by subst hL0; rfl) rfl (fun _ => rfl) (fn180) (⟨_, rfl⟩) (fun ro m8 zB zD k9 r9 a w hk9 hi9 hF hS => ?_) (fun Y zs1 hzz hY w hS => ?_) (fun l9 m9 zB zD k9 r9 x9 a w hk9 hi9 hF hS => ?_) (fun I D zD a w r9 hno hI hD hi9 hF hS => ?_)
   ·subst hhs0 hL0
    (try dsimp only [argsL] at hF); (try dsimp only [List.set_cons_zero, List.set_cons_succ] at hS)
    replace hS : St _ [_, _] [_, _, _, _] _ := hS
    obtain ⟨u, rfl⟩ := hi9
    (try dsimp only at hS)
    have hsc := Jn.sec_len (n0 : Int) t k9
    replace hS : St _ [_, _] [_, _, _, _] _ := hS
    refine reglR (by rfl) ?_
    refine eQ hF hS rfl (ef_allocA ty174) ?_
    rintro _ _ _ a w ⟨b3, rfl, rfl, rfl⟩ hF hS
    rw [show List.replicate 64 (Value.int .u8 0) = (List.replicate 64 (0 : UInt8)).map vb from by rw [List.map_replicate] <;> rfl] at hS
    refine eQ hF hS rfl (ef_storeW ty174 0 rfl rfl rfl rfl bQ oQ bQ) ?_
    rintro _ _ _ a w ⟨rfl, rfl, rfl⟩ hF hS
    replace hS : St _ [_, _] [_, _, _, _, _] _ := hS
    refine listR ?_
    exact ⟨rfl, b3, hF, hS⟩
   ·subst hhs0 hL0
    exact CxH.full2 (parts1_ct e1 e2 t n0 (by omega) (by omega) Y _ zs1 _ (fun (k : Nat) (r : Res × Res) => ∃ u, r = (.blk b1 40 [u], .row u 9 1 k ((Jn.secN (n0 : Int) t k).map vs))) _ _ hg0 ⟨_, rfl⟩ hY) w hS
   ·subst hhs0 hL0
    (try dsimp only [argsL] at hF); (try dsimp only [List.set_cons_zero, List.set_cons_succ] at hS)
    replace hS : St _ [_, _] [_, _, _, _, _] _ := hS
    obtain ⟨u, rfl⟩ := hi9
    (try dsimp only at hS)
    have hsc := Jn.sec_len (n0 : Int) t k9
    replace hS : St _ [_, _] [_, _, _, _, _] _ := hS
    refine wpIn_block ?_
    revert hS; revert hF; apply regJR (J := J2 (α0 := Value) (α1 := Value) 29 _ _ _ _ _) #[false, false, false, false, false, false] 6 mixed rfl rfl; case hd => rfl
    ·intro w hF hS
     refine tQ 0 rfl hF (hS.keep sQ (zQ.k.n.n.n)) (q_ld_blk1 ty40 0 rfl rfl rfl rfl) fun a hF => ?_
     refine tQ 1 rfl hF (hS.keep sQ (zQ.k)) (q_sla ty174 ty5 rfl) fun a hF => ?_
     refine tQ 2 rfl hF (hS.keep sQ (zQ.k)) (q_b2s_blkM ty25 ty9 ty5 0 rfl rfl bQ) fun a hF => ?_
     refine gQ 3 rfl rfl hF hS rfl (ef_bsliceA ty40 ty9 rfl rfl oQ (by decide) rfl rfl) ?_
     rintro v_8_3 _ _ a w ⟨rfl, rfl⟩ hF hS
     refine ⟨⟨iQ, iQ, .inr (hS.keep sQ (zQ.k.n.n.n.n)), trivial⟩, ?_⟩
     refine gQ 4 rfl rfl hF hS rfl (ef_append ty40 ty9 5 rfl rfl rfl (src_row ty40 (k := 0) rfl oQ) bQ rfl (by decide)) ?_
     rintro v_8_4 _ _ a w ⟨rfl, rfl⟩ hF hS
     refine ⟨⟨iQ, iQ, iQ, trivial⟩, ?_⟩
     refine gQ 5 rfl rfl hF hS rfl (ef_store1 ty40 4 rfl rfl rfl (row_one (hS.own _ (List.mem_of_getElem? (i := 5) rfl)).1) (by simp)) ?_
     rintro _ _ _ a w ⟨rfl, rfl, rfl⟩ hF hS
     (try simp only [List.set_cons_zero, List.set_cons_succ] at hS)
     replace hS : St _ [_, _] [_, _, _, _, _, _] _ := hS
     refine ⟨⟨iQ, iQ, iQ, trivial⟩, ?_⟩
     exact goW_done kQ (j2_mk v_8_3 v_8_4 (trivial) (hF.sub (L' := []) trivial) hS)
    rintro a w ⟨v_8_3, v_8_4, -, hF, hS⟩
    (try dsimp only at hF hS)
    replace hS := hS.perm (.cons _ (.swap _ _ _))
    replace hS := hS.perm (.swap _ _ _)
    replace hS := hS.perm P1_2
    replace hS := hS.perm P2_3
    replace hS := hS.perm (.cons _ (.cons _ (.cons _ (.cons _ (.swap _ _ _)))))
    replace hS := hS.perm (.cons _ (.cons _ (.cons _ (.swap _ _ _))))
    rw [Jn.secN_step] at hS
    exact ⟨rfl, (_, _), ⟨_, rfl⟩, hS.keep sQ (sQ.n.n.k.k.k.k)⟩
   subst hhs0 hL0
   (try dsimp only [argsL] at hF); (try dsimp only [List.set_cons_zero, List.set_cons_succ] at hS)
   replace hS : St _ [_] [_, _, _, _] _ := hS
   obtain ⟨u, rfl⟩ := hi9
   (try dsimp only at hS)
   replace hS : St _ [_] [_, _, _, _] _ := hS
   refine hK8 _ _ ?_
   refine regS hF hS (q0 (q_ld_blk1 ty40 2 rfl rfl rfl rfl) <| aQ rfl <| aQ rfl <| sq_end) fun a w hF hS => ?_
   refine wp_ret ?_
   replace hS := hS.perm P0_2
   exact fn_retG [] hI hD (by simp) (by simp) (by simp) (rs := [.tmp 4, .tmp 5]) rfl hF hS (vs := [_, _]) ⟨rfl, rfl, trivial⟩ (fun W hS => ⟨[], _, hS.keep zQ ((zQ.k)), Jn.pk_of (q := Jn.secN (n0 : Int) t (Jn.cnt t.length).toNat) ⟨u, rfl, rfl, by rw [Jn.secN_len]⟩ (by rw [Jn.pack_3 (by omega) (by omega), Jn.secN_end])⟩)
end
section
attribute [local irreducible] Sha.sum Jn.good Jn.hd Jn.lb
end
section
theorem ty173 : Tf Tryz.prog 173 (.slice 130) 1 24 (Value.slice none 0 0) := ⟨Tryz.underlying173, by kernel_rfl⟩
attribute [local irreducible] Sha.sum Jn.good Jn.hd Jn.lb Jn.cnt
theorem record_ct (v : Value) (xs : List Jn.Part) (h0 : xs ≠ []) (w : World) (hb : Sl Jn.encPt (ph w) v xs) : Ct Tryz.prog 94 [v] w (fun r _ _ => r = .tuple [vs (Jn.recT xs).1, vi (Jn.recT xs).2.1, .bool (Jn.recT xs).2.2].toArray) := by
 refine fn_enter Tryz.func94 rfl Tryz.ntmps94 (Nat.le_of_ble_eq_true rfl) fun a hF hS => ?_
 have hbl := hb.1
 have hps := K_all hb
 have hx0 : 0 < xs.length := List.length_pos_iff.2 h0
 have hf : Jn.PtOk (Jn.f0 xs) := (K_at Jn.p0 hb hx0).2
 obtain ⟨⟨hf1, hf2⟩, ⟨hf3, hf4⟩, ⟨hf5, hf6⟩, hf7⟩ := hf
 refine regS hF hS (aQ rfl <| aQ rfl <| aQ rfl <| sq_end) fun a w hF hS => ?_
 refine reglS fun K2 hK2 => ?_
 refine lQ hF hS (mQ rfl <| q0 (q_idx_sl ty173 ty130 hb rfl rfl (by omega)) <| q0 (q_ld_Pt ty130 hb zin0 rfl rfl (by first | omega | (simp; omega))) <| sq_end) fun a w hF hS => ?_
 refine eQ hF hS rfl (ef_allocA ty130) ?_
 rintro _ _ _ a w ⟨b1, rfl, rfl, rfl⟩ hF hS
 refine eQ hF hS rfl (ef_storeW ty130 0 rfl rfl rfl rfl bQ (oc_cons rfl (oc_cons rfl (oc_cons rfl (oc_cons rfl (oc_cons rfl oc_nil))))) bQ) ?_
 rintro _ _ _ a w ⟨rfl, rfl, rfl⟩ hF hS
 replace hS := nl0_1 hS
 refine wpList_nil ?_
 replace hS : St _ [] [.blk b1 130 [vi (Jn.f0 xs).n, vi (Jn.f0 xs).p, vi (Jn.f0 xs).l, vs (Jn.f0 xs).t, .bool (Jn.f0 xs).ok]] _ := hS
 refine hK2 _ _ ?_
 refine k0 ?_; intro K3 hK3
 refine reg hF hS (q0 (q_fieldAddr ty130 rfl rfl (s' := 0) kQ) <| q0 (q_ld_blk1 ty3 0 rfl rfl rfl rfl) <| q0 (q_call fn27 rfl (fun w hS => count_ct _ (by first | assumption | omega) w ) (fun _ _ _ h => h)) <| aQ rfl <| sq_end) fun a w hF hS => ?_
 have hcp := Jn.cnt_pos ⟨hf5, hf6⟩
 have hcr := Jn.cnt_rng (Jn.f0 xs).l
 refine hK3 _ _ ?_
 refine k0 ?_; intro K4 hK4
 refine reglS fun K5 hK5 => ?_
 refine lQ hF hS (q0 (q_fieldAddr ty130 rfl rfl (s' := 0) kQ) <| q0 (q_ld_blk1 ty4 0 rfl rfl rfl rfl) <| q0 (q_not rfl) <| mQ rfl <| sq_end) fun a w hF hS => ?_
 refine wpl_or 3 19 3 hF hS rfl rfl rfl rfl rfl (fun hg => have hg := hg; sq_go 19 rfl rfl rfl (q_fieldAddr ty130 rfl rfl (s' := 0) kQ) <| sq_go 19 rfl rfl rfl (q_ld_blk1 ty3 0 rfl rfl rfl rfl) <| sq_go 19 rfl rfl rfl (q_nei rfl rfl) <| sq_end) rfl rfl fun a w hF hS => ?_
 refine lQ hF hS (mQ rfl <| sq_end) fun a w hF hS => ?_
 refine wpl_or 8 24 4 hF hS rfl rfl rfl rfl rfl (fun hg => have hg := hg; sq_go 24 rfl rfl rfl (q_move rfl) <| sq_go 24 rfl rfl rfl (q_move rfl) <| sq_go 24 rfl rfl rfl (q_len_sl ty173 hb rfl) <| sq_go 24 rfl rfl rfl (q_gti rfl rfl) <| sq_end) rfl rfl fun a w hF hS => ?_
 refine wpList_nil (hK5 _ _ ?_)
 refine wp_if hF rfl (fun hc1 => ?_) (fun hc1 => ?_)
 ·(try simp only [bS] at hc1)
  refine regS hF hS (aQ rfl <| aQ rfl <| aQ rfl <| sq_end) fun a w hF hS => ?_
  refine wp_ret ?_
  exact fn_ret (rs := [.tmp 2, .tmp 3, .tmp 4]) rfl hF hS (vs := [_, _, _]) ⟨rfl, rfl, rfl, trivial⟩ zQ zQ (by rw [Jn.rec_1 h0 hc1])
 ·(try simp only [bS] at hc1)
  refine wp_skip ?_
  refine hK4 _ _ ?_
  refine regS hF hS (aQ rfl <| sq_end) fun a w hF hS => ?_
  refine k0 ?_; intro K8 hK8
  refine k0 ?_; intro K9 hK9
  refine reg hF hS (mQ rfl <| mQ rfl <| q0 (q_slsl_hi ty173 ty130 hb rfl rfl (by omega)) <| q0 (q_len_sl ty173 (Sl.cut hb (by omega)) rfl) <| mQ rfl <| sq_end) fun a w hF hS => ?_
  have hml : (List.drop 0 (List.take (Jn.cnt (Jn.f0 xs).l).toNat xs)).length = (Jn.cnt (Jn.f0 xs).l).toNat := by rw [List.length_drop, List.length_take]; omega
  refine hK9 _ _ ?_
  refine wp_block ?_
  obtain ⟨hs0, hhs0, hS⟩ := hS.oh
  refine wp_loopx (γ := Nat) (0) (fun (k : Nat) => [(7, vs (Jn.txs ((List.drop 0 (List.take (Jn.cnt (Jn.f0 xs).l).toNat xs)).take k))), (34, vi (k : Int))]) [(5, _), (6, _), (32, _), (33, _)] (fun (k : Nat) => hs0) (fun (k : Nat) => k ≤ (Jn.cnt (Jn.f0 xs).l).toNat ∧ Jn.mts (Jn.f0 xs) 0 ((List.drop 0 (List.take (Jn.cnt (Jn.f0 xs).l).toNat xs)).take k) = true) (fun (k : Nat) => (Jn.cnt (Jn.f0 xs).l).toNat - k) (hF.sub ⟨rfl, rfl, rfl, rfl, rfl, rfl, trivial⟩) (by subst hhs0; exact hS) (by exact ⟨Nat.zero_le _, rfl⟩) ?_
  rintro k a w hfact hF hS
  subst hhs0; (try dsimp only at hfact hF hS)
  obtain ⟨hk0, hmt⟩ := hfact
  replace hS := nl0_1 hS
  have htl := Jn.txs_len (l := (List.drop 0 (List.take (Jn.cnt (Jn.f0 xs).l).toNat xs)).take k) (fun x hx => hps x (Jn.mem_cut2 x hx))
  rw [List.length_take] at htl
  refine regS hF hS (q0 (q_lti rfl rfl) <| sq_end) fun a w hF hS => ?_
  refine k0 ?_; intro K11 hK11
  refine wp_ifd hF rfl (fun hc2 => ?_) (fun hc2 => ?_)
  ·have hX := hps _ (Jn.mem_cut (xs := xs) (m := (Jn.cnt (Jn.f0 xs).l).toNat) (k := k) (by omega))
   obtain ⟨⟨hx1, hx2⟩, ⟨hx3, hx4⟩, ⟨hx5, hx6⟩, hx7⟩ := hX
   refine wp_skip ?_
   refine hK11 _ _ ?_
   refine k0 ?_; intro K12 hK12
   refine wp_block ?_
   refine reglS fun K13 hK13 => ?_
   refine lQ hF hS (mQ rfl <| q0 (q_idx_sl ty173 ty130 (Sl.cut hb (by omega)) rfl rfl (by omega)) <| q0 (q_ld_Pt ty130 (Sl.cut hb (by omega)) zin0 rfl rfl (by first | omega | (simp; omega))) <| sq_end) fun a w hF hS => ?_
   refine eQ hF hS rfl (ef_allocA ty130) ?_
   rintro _ _ _ a w ⟨b2, rfl, rfl, rfl⟩ hF hS
   refine lQ hF hS (aQ rfl <| sq_end) fun a w hF hS => ?_
   refine eQ hF hS rfl (ef_storeW ty130 0 rfl rfl rfl rfl bQ (oc_cons rfl (oc_cons rfl (oc_cons rfl (oc_cons rfl (oc_cons rfl oc_nil))))) bQ) ?_
   rintro _ _ _ a w ⟨rfl, rfl, rfl⟩ hF hS
   replace hS := nl0_2 hS
   refine wpList_nil ?_
   rw [show ((k : Int)).toNat = k from Int.toNat_natCast k] at hS
   replace hS : St _ [] [.blk b2 130 [vi ((List.drop 0 (List.take (Jn.cnt (Jn.f0 xs).l).toNat xs)).getD k Jn.p0).n, vi ((List.drop 0 (List.take (Jn.cnt (Jn.f0 xs).l).toNat xs)).getD k Jn.p0).p, vi ((List.drop 0 (List.take (Jn.cnt (Jn.f0 xs).l).toNat xs)).getD k Jn.p0).l, vs ((List.drop 0 (List.take (Jn.cnt (Jn.f0 xs).l).toNat xs)).getD k Jn.p0).t, .bool ((List.drop 0 (List.take (Jn.cnt (Jn.f0 xs).l).toNat xs)).getD k Jn.p0).ok], _] _ := hS
   refine hK13 _ _ ?_
   refine k0 ?_; intro K14 hK14
   refine reglS fun K15 hK15 => ?_
   refine lQ hF hS (q0 (q_fieldAddr ty130 rfl rfl (s' := 0) kQ) <| q0 (q_ld_blk1 ty4 0 rfl rfl rfl rfl) <| q0 (q_not rfl) <| mQ rfl <| sq_end) fun a w hF hS => ?_
   refine wpl_or 3 42 5 hF hS rfl rfl rfl rfl rfl (fun hg => have hg := hg; sq_go 42 rfl rfl rfl (q_fieldAddr ty130 rfl rfl (s' := 0) kQ) <| sq_go 42 rfl rfl rfl (q_ld_blk1 ty3 0 rfl rfl rfl rfl) <| sq_go 42 rfl rfl rfl (q_fieldAddr ty130 rfl rfl (s' := 0) kQ) <| sq_go 42 rfl rfl rfl (q_ld_blk1 ty3 1 rfl rfl rfl rfl) <| sq_go 42 rfl rfl rfl (q_nei rfl rfl) <| sq_end) rfl rfl fun a w hF hS => ?_
   refine lQ hF hS (mQ rfl <| sq_end) fun a w hF hS => ?_
   refine wpl_or 10 49 4 hF hS rfl rfl rfl rfl rfl (fun hg => have hg := hg; sq_go 49 rfl rfl rfl (q_fieldAddr ty130 rfl rfl (s' := 0) kQ) <| sq_go 49 rfl rfl rfl (q_ld_blk1 ty3 0 rfl rfl rfl rfl) <| sq_go 49 rfl rfl rfl (q_move rfl) <| sq_go 49 rfl rfl rfl (q_nei rfl rfl) <| sq_end) rfl rfl fun a w hF hS => ?_
   refine lQ hF hS (mQ rfl <| sq_end) fun a w hF hS => ?_
   refine wpl_or 16 55 8 hF hS rfl rfl rfl rfl rfl (fun hg => have hg := hg; sq_go 55 rfl rfl rfl (q_fieldAddr ty130 rfl rfl (s' := 0) kQ) <| sq_go 55 rfl rfl rfl (q_ld_blk1 ty3 0 rfl rfl rfl rfl) <| sq_go 55 rfl rfl rfl (q_fieldAddr ty130 rfl rfl (s' := 0) kQ) <| sq_go 55 rfl rfl rfl (q_ld_blk1 ty3 1 rfl rfl rfl rfl) <| sq_go 55 rfl rfl rfl (q_move rfl) <| sq_go 55 rfl rfl rfl (q_muli rfl rfl (by omega)) <| sq_go 55 rfl rfl rfl (q_subi rfl rfl (by omega)) <| sq_go 55 rfl rfl rfl (q_nei rfl rfl) <| sq_end) rfl rfl fun a w hF hS => ?_
   refine wpList_nil (hK15 _ _ ?_)
   refine wp_if hF rfl (fun hc3 => ?_) (fun hc3 => ?_)
   ·(try simp only [bS] at hc3)
    refine regS hF hS (aQ rfl <| aQ rfl <| aQ rfl <| sq_end) fun a w hF hS => ?_
    refine wp_ret ?_
    exact fn_ret (rs := [.tmp 2, .tmp 3, .tmp 4]) rfl hF hS (vs := [_, _, _]) ⟨rfl, rfl, rfl, trivial⟩ zQ zQ (by rw [Jn.rec_2 h0 (Jn.mts_stop (l := (List.drop 0 (List.take (Jn.cnt (Jn.f0 xs).l).toNat xs))) (k := k) (by omega) hc3)])
   ·(try simp only [bS] at hc3)
    refine wp_skip ?_
    refine hK14 _ _ ?_
    refine reg hF hS (mQ rfl <| q0 (q_fieldAddr ty130 rfl rfl (s' := 0) kQ) <| q0 (q_ld_blk1 ty9 0 rfl rfl rfl rfl) <| q0 (q_adds rfl rfl bQ) <| aQ rfl <| sq_end) fun a w hF hS => ?_
    refine hK12 _ _ ?_
    refine reg hF hS (pQ rfl rfl <| mQ rfl <| sq_end) fun a w hF hS => ?_
    replace hS := hS.keep zQ (sQ.n)
    refine ⟨(k + 1), ?_, ?_, hF.sub ⟨(by show some (vs _) = some (vs _); rw [Jn.txs_step (by omega)]), rfl, rfl, rfl, rfl, rfl, trivial⟩, ?_⟩
    ·(try dsimp only); omega
    ·exact ⟨by omega, Jn.mts_step (by omega) hmt hc3⟩
    ·exact hS
  ·have hke : k = (Jn.cnt (Jn.f0 xs).l).toNat := by omega
   rw [show (List.drop 0 (List.take (Jn.cnt (Jn.f0 xs).l).toNat xs)).take k = xs.take (Jn.cnt (Jn.f0 xs).l).toNat from by rw [List.take_of_length_le (by omega)]; rfl] at hF hmt
   refine wp_exit ?_
   refine hK8 _ _ ?_
   refine regS hF hS (mQ rfl <| mQ rfl <| aQ rfl <| aQ rfl <| aQ rfl <| sq_end) fun a w hF hS => ?_
   refine wp_ret ?_
   exact fn_ret (rs := [.tmp 2, .tmp 3, .tmp 4]) rfl hF hS (vs := [_, _, _]) ⟨rfl, rfl, rfl, trivial⟩ zQ zQ (by rw [Jn.rec_3 h0 hc1 hcp hmt, Int.toNat_of_nonneg hcr.1])
theorem clones_ct (v : Value) (xs : List (List UInt8)) (hl : xs.length < 1048576) (w : World) (hb : Sl Go.Fw.encS (ph w) v xs) : Ct Tryz.prog 96 [v] w (fun r zs hs => zs = [] ∧ hs = [.row r 9 1 xs.length (xs.map vs)]) := by
 refine fn_enter Tryz.func96 rfl Tryz.ntmps96 (Nat.le_of_ble_eq_true rfl) fun a hF hS => ?_
 have hbl := hb.1
 refine regS hF hS (aQ rfl <| sq_end) fun a w hF hS => ?_
 refine k0 ?_; intro K2 hK2
 refine regS hF hS (mQ rfl <| q0 (q_eqnil ty40 hb rfl rfl) <| sq_end) fun a w hF hS => ?_
 refine wp_if hF rfl (fun hc1 => ?_) (fun hc1 => ?_)
 ·obtain rfl := nilS_nil hb hc1
  refine k0 ?_; intro K4 hK4
  refine reg hF hS (aQ rfl <| sq_end) fun a w hF hS => ?_
  replace hS := hS.nilRow 9 1
  refine hK4 _ _ ?_
  refine wp_ret ?_
  exact fn_ret (rs := [.tmp 2]) rfl hF hS (vs := [_]) ⟨rfl, trivial⟩ sQ sQ ⟨rfl, rfl⟩
 ·refine wp_skip ?_
  refine hK2 _ _ ?_
  refine reglS fun K5 hK5 => ?_
  refine eQ hF hS rfl (ef_bslice0 ty40 ty9) ?_
  rintro v1 _ _ a w ⟨rfl, rfl⟩ hF hS
  replace hS := nl0_1 hS
  refine lQ hF hS (mQ rfl <| sq_end) fun a w hF hS => ?_
  refine eQ hF hS rfl (ef_append ty40 ty9 0 rfl rfl rfl (src_slV ty40 hb zin0) bQ rfl (by decide)) ?_
  rintro v3 _ _ a w ⟨rfl, rfl⟩ hF hS
  replace hS := nl0_1 hS
  refine lQ hF hS (aQ rfl <| sq_end) fun a w hF hS => ?_
  refine wpList_nil ?_
  replace hS := hS.rowEq (Nat.zero_add _) (List.nil_append _)
  refine hK5 _ _ ?_
  refine wp_ret ?_
  exact fn_ret (rs := [.tmp 2]) rfl hF hS (vs := [_]) ⟨rfl, trivial⟩ sQ sQ ⟨rfl, rfl⟩
end
section
theorem ty172 : Tf Tryz.prog 172 (.struct #[⟨ "d", 46, 0, false, "", "culprit/journal", 0⟩, ⟨ "numbers", 22, 1, false, "", "culprit/journal", 8⟩, ⟨ "bad", 22, 2, false, "", "culprit/journal", 32⟩, ⟨ "texts", 40, 3, false, "", "culprit/journal", 56⟩, ⟨ "next", 3, 4, false, "", "culprit/journal", 80⟩, ⟨ "end", 3, 5, false, "", "culprit/journal", 88⟩, ⟨ "closed", 4, 6, false, "", "culprit/journal", 96⟩]) 7 104 (.agg ([Value.pointer none] ++ [Value.slice none 0 0, Value.slice none 0 0, Value.slice none 0 0] ++ [Value.int .i64 0, Value.int .i64 0] ++ [Value.bool false]).toArray) := ⟨Tryz.underlying172, by kernel_rfl⟩
theorem fn96 : FnOk Tryz.prog 96 := fQ Tryz.func96
abbrev JJ := Jn.JOk 172 3 9
attribute [local irreducible] Sha.sum Jn.good Jn.hd Jn.lb Jn.cnt
theorem jtexts_ct (b pd : Nat) (J : Jn.JS) (w0 : World) (zsr : List PH) {q1 q2 q3 q4 : Res} (hJ : JJ b pd J q1 q2 q3 q4) : Cx Tryz.prog 53 [.pointer (some ⟨b, 0, none⟩)] w0 zsr [q1, q2, q3, q4] (Jn.JRw (JJ b pd) 9 J J.tx.length (J.tx.map vs)) := by
 refine fn_enterx Tryz.func53 rfl Tryz.ntmps53 (Nat.le_of_ble_eq_true rfl) fun hsr a w hF hS => ?_
 replace hS := nt0_4 hS
 obtain ⟨vn, vbd, vt, hWf, rfl, rfl, rfl, rfl⟩ := hJ
 have hj1 := hWf.n1
 have hj2 := hWf.n2
 have hj3 := hWf.e1
 have hj4 := hWf.e2
 have hj5 := hWf.nl
 have hj6 := hWf.tl
 have hj7 := hWf.bl
 have hj8 := hWf.nr'
 have hj9 := hWf.br'
 have hj10 := hWf.tr'
 replace hS := nt0_4 hS
 refine regS hF hS (aQ rfl <| sq_end) fun a w hF hS => ?_
 refine reglS fun K2 hK2 => ?_
 refine lQ hF hS (mQ rfl <| q0 (q_nilCheck rfl) <| q0 (q_fieldAddr ty172 rfl rfl (s' := 0) kQ) <| q0 (q_ld_blk1 ty40 0 rfl rfl rfl rfl) <| sq_end) fun a w hF hS => ?_
 refine eQ hF hS rfl (ef_call fn96 rfl (fun w hS => clones_ct _ _ (by first | assumption | omega) w (own_slV (hS.own _ (List.mem_of_getElem? (i := 3) rfl)).1 (by first | assumption | (simp; done)) (by first | rfl | (simp; done) | (simp; omega) | omega) (by first | omega | (simp; omega))))) ?_
 rintro v1 _ _ a w ⟨_, _, rfl, rfl, ⟨rfl, rfl⟩⟩ hF hS
 replace hS := nt0_5 hS
 refine lQ hF hS (aQ rfl <| sq_end) fun a w hF hS => ?_
 refine wpList_nil (hK2 _ _ ?_)
 refine wp_ret ?_
 exact fn_retx (rs := [.tmp 2]) rfl hF hS (vs := [_]) ⟨rfl, trivial⟩ [] [_, _, _, _, _] sQ sQ (Jn.jrw_of ⟨rfl, _, _, _, _, rfl, ⟨vn, vbd, vt, hWf, rfl, rfl, rfl, rfl⟩⟩ rfl rfl)
end
end Go.Proofs.YtngcjojijaknnaaGreatDoor
