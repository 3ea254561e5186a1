/- A text of a proof over this seat: walks over the program's functions and the plain laws that they need. -/
import Derived.Test.YtdojfnigffeblaaDoorFwA
import Derived.Test.YtdojfnigffeblaaDoorFwB
import Derived.Test.YtdojfnigffeblaaDoorFwD
import Derived.Test.YtdojfnigffeblaaDoorGuA
import Derived.Test.YtdojfnigffeblaaDoorShW
import Derived.Test.YtdojfnigffeblaaDoorMkA
import Derived.Test.YtdojfnigffeblaaDoorChecked
set_option linter.all false
namespace Go.Proofs.YtdojfnigffeblaaDoor
open Go.Fw
set_option maxRecDepth 4000
set_option maxHeartbeats 2000000
section
theorem mixed : Tryd.prog.follows .mixedOrders = true := by kernel_rfl
theorem ty3 : Tf Tryd.prog 3 (.int .i64) 1 8 (Value.int .i64 0) := ⟨Tryd.underlying3, by kernel_rfl⟩
theorem ty5 : Tf Tryd.prog 5 (.int .u8) 1 1 (Value.int .u8 0) := ⟨Tryd.underlying5, by kernel_rfl⟩
theorem ty39 : Tf Tryd.prog 39 (.slice 5) 1 24 (Value.slice none 0 0) := ⟨Tryd.underlying39, by kernel_rfl⟩
theorem ty151 : Tf Tryd.prog 151 (.int .u32) 1 4 (Value.int .u32 0) := ⟨Tryd.underlying151, by kernel_rfl⟩
theorem ty152 : Tf Tryd.prog 152 (.array 8 151) 8 32 (.agg (List.replicate 8 (Value.int .u32 0)).toArray) := ⟨Tryd.underlying152, by kernel_rfl⟩
theorem ty160 : Tf Tryd.prog 160 (.int .u64) 1 8 (Value.int .u64 0) := ⟨Tryd.underlying160, by kernel_rfl⟩
theorem ty162 : Tf Tryd.prog 162 (.array 64 151) 64 256 (.agg (List.replicate 64 (Value.int .u32 0)).toArray) := ⟨Tryd.underlying162, by kernel_rfl⟩
theorem ty166 : Tf Tryd.prog 166 (.array 4 151) 4 16 (.agg ([Value.int .u32 0, Value.int .u32 0, Value.int .u32 0, Value.int .u32 0]).toArray) := ⟨Tryd.underlying166, by kernel_rfl⟩
theorem fn115 : FnOk Tryd.prog 115 := fQ Tryd.func115
theorem fn116 : FnOk Tryd.prog 116 := fQ Tryd.func116
theorem fn117 : FnOk Tryd.prog 117 := fQ Tryd.func117
theorem rot_ct (x : UInt32) (k : Int) (w : World) : Ct Tryd.prog 117 [vw x, vi k] w (fun v _ _ => v = vw (Sha.rotl x k)) := by
 refine fn_enter Tryd.func117 rfl Tryd.ntmps117 lB fun a hF hS => ?_
 have hk := (ofq k &&& 31)
 refine regS hF hS (aQ rfl <| sq_end) fun a w hF hS => ?_
 refine regS hF hS (mQ rfl <| q0 (q_cv_iq ty3 ty160 rfl) <| q0 (q_andq (q := 31) rfl rfl) <| aQ rfl <| sq_end) fun a w hF hS => ?_
 refine regS hF hS (mQ rfl <| mQ rfl <| q0 (q_shlw rfl rfl omQ) <| mQ rfl <| mQ rfl <| q0 (q_subq (p := 32) rfl rfl) <| q0 (q_shrw rfl rfl omQ) <| q0 (q_orw rfl rfl) <| aQ rfl <| sq_end) fun a w hF hS => ?_
 refine wp_ret ?_
 exact fn_ret (rs := [.tmp 4]) rfl hF hS (vs := [_]) ⟨rfl, trivial⟩ zQ zQ (rfl)
theorem mix_ct (x : UInt32) (i j k : Int) (hi : 0 < i ∧ i < 32) (hj : 0 < j ∧ j < 32) (hk : 0 < k ∧ k < 32) (w : World) : Ct Tryd.prog 116 [vw x, vi i, vi j, vi k] w (fun v _ _ => v = vw (Sha.rotr x (UInt32.ofNat i.toNat) ^^^ Sha.rotr x (UInt32.ofNat j.toNat) ^^^ Sha.rotr x (UInt32.ofNat k.toNat))) := by
 refine fn_enter Tryd.func116 rfl Tryd.ntmps116 lB fun a hF hS => ?_
 refine regS hF hS (aQ rfl <| sq_end) fun a w hF hS => ?_
 refine regS hF hS (mQ rfl <| mQ rfl <| q0 (q_negi rfl omQ) <| q0 (q_call fn117 rfl (fun w hS => rot_ct _ _ w ) hI) <| mQ rfl <| mQ rfl <| q0 (q_negi rfl omQ) <| q0 (q_call fn117 rfl (fun w hS => rot_ct _ _ w ) hI) <| q0 (q_xorw rfl rfl) <| mQ rfl <| mQ rfl <| q0 (q_negi rfl omQ) <| q0 (q_call fn117 rfl (fun w hS => rot_ct _ _ w ) hI) <| q0 (q_xorw rfl rfl) <| aQ rfl <| sq_end) fun a w hF hS => ?_
 refine wp_ret ?_
 exact fn_ret (rs := [.tmp 8]) rfl hF hS (vs := [_]) ⟨rfl, trivial⟩ zQ zQ (by rw [Sha.mix_rotr x i j k hi hj hk])
theorem sched_ct (v : Value) (bb : List UInt8) (hl : bb.length = 64) (w : World) (hb : Sl encB (ph w) v bb) : Ct Tryd.prog 115 [v] w (fun r _ _ => r = .agg ((Sha.sch bb 64).map vw).toArray) := by
 refine fn_enter Tryd.func115 rfl Tryd.ntmps115 lB fun a hF hS => ?_
 have hb := hb
 refine reglS fun K1 hK1 => ?_
 refine eQ hF hS rfl (ef_allocA ty162) ?_
 rintro _ _ _ a w ⟨b1, rfl, rfl, rfl⟩ hF hS
 rw [show List.replicate 64 (Value.int .u32 0) = (List.replicate 64 (0 : UInt32)).map vw from by rw [List.map_replicate] <;> rfl] at hS
 refine wpList_nil (hK1 _ _ ?_)
 refine reglS fun K2 hK2 => ?_
 refine eQ hF hS rfl (ef_allocA ty162) ?_
 rintro _ _ _ a w ⟨b2, rfl, rfl, rfl⟩ hF hS
 rw [show List.replicate 64 (Value.int .u32 0) = (List.replicate 64 (0 : UInt32)).map vw from by rw [List.map_replicate] <;> rfl] at hS
 refine wpList_nil (hK2 _ _ ?_)
 refine k0 ?_; intro K3 hK3
 refine regS hF hS (mQ rfl <| sq_end) fun a w hF hS => ?_
 refine wp_block ?_
 obtain ⟨hs0, hhs0, hS⟩ := hS.oh
 refine wp_loopx (γ := Int) (0) (fun (t : Int) => [(11, vi t)]) [(0, _), (2, _), (3, _)] (fun (t : Int) => (hs0.set 0 (.blk b2 162 ((Sha.schW bb t.toNat).map vw)))) (fun (t : Int) => 0 ≤ t ∧ t ≤ 64) (fun (t : Int) => (64 - t).toNat) (hF.sub ⟨rfl, rfl, rfl, rfl, trivial⟩) (by subst hhs0; exact hS) (by simp) ?_
 rintro t a w hfact hF hS
 subst hhs0; (try dsimp only at hfact hF hS)
 obtain ⟨ht0, ht1⟩ := hfact
 replace hS := nl0_2 hS
 have hwl := Sha.schW_len bb t.toNat omQ
 refine regS hF hS (q0 (q_lti rfl rfl) <| sq_end) fun a w hF hS => ?_
 refine k0 ?_; intro K6 hK6
 refine wp_ifd hF rfl (fun hc1 => ?_) (fun hc1 => ?_)
 ·refine wp_skip ?_
  refine hK6 _ _ ?_
  refine k0 ?_; intro K7 hK7
  refine wp_block ?_
  refine regS hF hS (mQ rfl <| aQ rfl <| sq_end) fun a w hF hS => ?_
  refine k0 ?_; intro K9 hK9
  refine regS hF hS (mQ rfl <| q0 (q_lti rfl rfl) <| sq_end) fun a w hF hS => ?_
  refine wp_ifd hF rfl (fun hc2 => ?_) (fun hc2 => ?_)
  ·refine k0 ?_; intro K11 hK11
   refine k0 ?_; intro K12 hK12
   refine reg hF hS (mQ rfl <| mQ rfl <| q0 (q_muli rfl rfl omQ) <| mQ rfl <| q0 (q_muli rfl rfl omQ) <| pQ rfl rfl <| q0 (q_slsl_lo_hi ty39 ty5 hb rfl rfl rfl omQ) <| q0 (q_len_sl ty39 (Sl.cut hb omQ) rfl) <| mQ rfl <| sq_end) fun a w hF hS => ?_
   have hlen : (((bb.take (4 * t + 4).toNat).drop (4 * t).toNat).length : Int) = 4 := by simp; omega
   refine hK12 _ _ ?_
   refine wp_block ?_
   obtain ⟨hs0, hhs0, hS⟩ := hS.oh
   refine wp_loopx (γ := Int) (0) (fun (j : Int) => [(24, vi j)]) [(0, _), (2, _), (3, _), (4, _), (11, _), (22, _), (23, _)] (fun (j : Int) => (hs0.set 0 (.blk b2 162 ((Sha.schA bb t.toNat j.toNat).map vw)))) (fun (j : Int) => 0 ≤ j ∧ j ≤ 4) (fun (j : Int) => (4 - j).toNat) (hF.sub ⟨rfl, rfl, rfl, rfl, rfl, rfl, rfl, rfl, trivial⟩) (by subst hhs0; rw [Sha.schW_A bb t.toNat omQ] at hS; exact hS) (by simp) ?_
   rintro j a w hfact hF hS
   subst hhs0; (try dsimp only at hfact hF hS)
   obtain ⟨hj0, hj1⟩ := hfact
   replace hS := nl0_2 hS
   have hal := Sha.schA_len bb t.toNat j.toNat omQ
   refine regS hF hS (q0 (q_lti rfl rfl) <| sq_end) fun a w hF hS => ?_
   refine k0 ?_; intro K14 hK14
   refine wp_ifd hF rfl (fun hc3 => ?_) (fun hc3 => ?_)
   ·refine wp_skip ?_
    refine hK14 _ _ ?_
    refine k0 ?_; intro K15 hK15
    refine wp_block ?_
    refine regS hF hS (q0 (q_idx_sl ty39 ty5 (Sl.cut hb omQ) rfl rfl omQ) <| q0 (q_ld_B ty5 (Sl.cut hb omQ) zin0 rfl rfl omQ) <| aQ rfl <| sq_end) fun a w hF hS => ?_
    refine regl ?_
    refine lQ hF hS (mQ rfl <| mQ rfl <| q0 (q_idx_arr0 ty162 ty151 rfl rfl omQ) <| q0 (q_ld_blkM ty151 0 0 rfl rfl bQ rfl) <| q0 (q_shlw rfl rfl omQ) <| mQ rfl <| q0 (q_cv_bw ty5 ty151 rfl) <| q0 (q_orw rfl rfl) <| q0 (q_idx_arr0 ty162 ty151 rfl rfl omQ) <| sq_end) fun a w hF hS => ?_
    refine eQ hF hS rfl (ef_st_blkM ty151 0 rfl rfl rfl bQ rfl) ?_
    rintro _ _ _ a w ⟨rfl, rfl, rfl⟩ hF hS
    replace hS := nl0_2 hS
    refine wpList_nil (hK15 _ _ ?_)
    refine reg hF hS (pQ rfl rfl <| mQ rfl <| sq_end) fun a w hF hS => ?_
    rw [Sha.acc_step bb t j omQ omQ omQ omQ hl] at hS
    refine ⟨(j + 1), ?_, ?_, hF.sub ⟨rfl, rfl, rfl, rfl, rfl, rfl, rfl, rfl, trivial⟩, ?_⟩
    ·(try dsimp only); omega
    ·(try dsimp only); omega
    ·exact hS
   ·refine wp_exit ?_
    refine hK11 _ _ ?_
    refine wp_exit ?_
    refine hK7 _ _ ?_
    refine reg hF hS (pQ rfl rfl <| mQ rfl <| sq_end) fun a w hF hS => ?_
    have hj : j = 4 := by omega
    subst hj
    rw [show (4 : Int).toNat = 4 from rfl, Sha.schA_end bb t.toNat omQ, show t.toNat + 1 = (t + 1).toNat by omega] at hS
    refine ⟨(t + 1), ?_, ?_, hF.sub ⟨rfl, rfl, rfl, rfl, trivial⟩, ?_⟩
    ·(try dsimp only); omega
    ·(try dsimp only); omega
    ·exact hS
  ·refine wp_skip ?_
   refine hK9 _ _ ?_
   refine regdS mixed kQ hF hS (mQ rfl <| dQ rfl rfl <| q0 (q_idx_arr0 ty162 ty151 rfl rfl omQ) <| q0 (q_ld_blkM ty151 0 0 rfl rfl bQ rfl) <| mQ rfl <| dQ rfl rfl <| q0 (q_idx_arr0 ty162 ty151 rfl rfl omQ) <| q0 (q_ld_blkM ty151 0 0 rfl rfl bQ rfl) <| aQ rfl <| aQ rfl <| sq_end) fun a w hF hS => ?_
   refine regS hF hS (mQ rfl <| q0 (q_call fn117 rfl (fun w hS => rot_ct _ _ w ) hI) <| mQ rfl <| q0 (q_call fn117 rfl (fun w hS => rot_ct _ _ w ) hI) <| q0 (q_xorw rfl rfl) <| mQ rfl <| q0 (q_shrw rfl rfl omQ) <| q0 (q_xorw rfl rfl) <| aQ rfl <| sq_end) fun a w hF hS => ?_
   refine regS hF hS (mQ rfl <| q0 (q_call fn117 rfl (fun w hS => rot_ct _ _ w ) hI) <| mQ rfl <| q0 (q_call fn117 rfl (fun w hS => rot_ct _ _ w ) hI) <| q0 (q_xorw rfl rfl) <| mQ rfl <| q0 (q_shrw rfl rfl omQ) <| q0 (q_xorw rfl rfl) <| aQ rfl <| sq_end) fun a w hF hS => ?_
   refine regt 15 mixed kQ hF hS (mQ rfl <| mQ rfl <| dQ rfl rfl <| q0 (q_idx_arr0 ty162 ty151 rfl rfl omQ) <| q0 (q_ld_blkM ty151 0 0 rfl rfl bQ rfl) <| mQ rfl <| q0 (q_addw rfl rfl) <| mQ rfl <| dQ rfl rfl <| q0 (q_idx_arr0 ty162 ty151 rfl rfl omQ) <| q0 (q_ld_blkM ty151 0 0 rfl rfl bQ rfl) <| q0 (q_addw rfl rfl) <| mQ rfl <| q0 (q_addw rfl rfl) <| q0 (q_idx_arr0 ty162 ty151 rfl rfl omQ) <| sq_end) fun a w hF hS => ?_
   refine eQ hF hS rfl (ef_st_blkM ty151 0 rfl rfl rfl bQ rfl) ?_
   rintro _ _ _ a w ⟨rfl, rfl, rfl⟩ hF hS
   replace hS := nl0_2 hS
   refine wpList_nil (hK7 _ _ ?_)
   refine reg hF hS (pQ rfl rfl <| mQ rfl <| sq_end) fun a w hF hS => ?_
   rw [Sha.sch_step bb t omQ omQ] at hS
   refine ⟨(t + 1), ?_, ?_, hF.sub ⟨rfl, rfl, rfl, rfl, trivial⟩, ?_⟩
   ·(try dsimp only); omega
   ·(try dsimp only); omega
   ·exact hS
 ·obtain rfl : t = 64 := by omega
  rw [show (64 : Int).toNat = 64 from rfl] at hwl
  rw [show (64 : Int).toNat = 64 from rfl, Sha.schW_64] at hS
  have hsl := Sha.sch_len bb 64
  refine wp_exit ?_
  refine hK3 _ _ ?_
  refine reglS fun K20 hK20 => ?_
  refine lQ hF hS (q0 (q_ld_blkW ty162 0 rfl rfl bQ rfl) <| sq_end) fun a w hF hS => ?_
  refine eQ hF hS rfl (ef_storeW ty162 1 rfl rfl rfl rfl bQ oQ bQ) ?_
  rintro _ _ _ a w ⟨rfl, rfl, rfl⟩ hF hS
  replace hS := nl0_2 hS
  refine wpList_nil (hK20 _ _ ?_)
  refine wp_ret ?_
  exact fn_ret (rs := [.cell 2 162]) rfl hF hS (vs := [_]) ⟨⟨_, _, _, _, _, _, _, rfl, List.mem_of_getElem? (i := 1) rfl, ty162, .inl ⟨rfl, bQ, rfl⟩⟩, trivial⟩ zQ zQ (rfl)
theorem compress_ct (v : Value) (ss : List UInt32) (bb : List UInt8) (hs8 : ss.length = 8) (hl : bb.length = 64) (w : World) (hb : Sl encB (ph w) v bb) {fz1 : Nat × Nat} {bt1 : TypeId} (hg1 : w.heap[2]? = some (.cells (Sha.kc.map vw).toArray bt1 fz1)) : Ct Tryd.prog 113 [.agg (ss.map vw).toArray, v] w (fun r _ _ => r = .agg ((Sha.comp ss bb).map vw).toArray) := by
 refine fn_enter Tryd.func113 rfl Tryd.ntmps113 lB fun a hF hS => ?_
 obtain ⟨a0, a1, a2, a3, a4, a5, a6, a7, rfl⟩ := Sha.list8 hs8
 have hsl := Sha.sch_len bb 64
 have hkl : Sha.kc.length = 64 := rfl
 refine reglS fun K1 hK1 => ?_
 refine eQ hF hS rfl (ef_boxA rfl) ?_
 rintro _ _ _ a w ⟨b1, rfl, rfl, rfl⟩ hF hS
 refine eQ hF hS rfl (ef_allocA ty152) ?_
 rintro _ _ _ a w ⟨b2, rfl, rfl, rfl⟩ hF hS
 refine wpList_nil (hK1 _ _ ?_)
 refine reglS fun K2 hK2 => ?_
 refine lQ hF hS (mQ rfl <| q0 (q_call fn115 rfl (fun w hS => sched_ct _ _ hl w (Sl.mono (hS.le zin0) hb)) hI) <| sq_end) fun a w hF hS => ?_
 refine eQ hF hS rfl (ef_allocA ty162) ?_
 rintro _ _ _ a w ⟨b3, rfl, rfl, rfl⟩ hF hS
 rw [show List.replicate 64 (Value.int .u32 0) = (List.replicate 64 (0 : UInt32)).map vw from by rw [List.map_replicate] <;> rfl] at hS
 refine eQ hF hS rfl (ef_storeW ty162 0 rfl rfl rfl rfl bQ oQ bQ) ?_
 rintro _ _ _ a w ⟨rfl, rfl, rfl⟩ hF hS
 replace hS := nl0_3 hS
 refine wpList_nil (hK2 _ _ ?_)
 refine k0 ?_; intro K3 hK3
 revert hS; revert hF; apply regJ (J := J2 (α0 := Nat) (α1 := Nat) 116 _ _ _ _ _) #[false, false, false, false, false, false, false, false, false, false] 10 mixed rfl rfl
 ·intro w hF hS
  refine tQ 0 rfl hF (hS.keep sQ (sN2)) (q_sla_hi ty152 ty151 rfl rfl omQ) fun a hF => ?_
  refine tQ 1 rfl hF (hS.keep sQ zQ) (q_s2ap ty166 rfl omQ) fun a hF => ?_
  refine tQ 2 rfl hF (hS.keep sQ (sN2)) (q_ld_blkA ty166 0 rfl rfl rfl (by simp) rfl) fun a hF => ?_
  refine tQ 3 rfl hF (hS.keep sQ (sN2)) (q_sla_lo ty152 ty151 rfl rfl omQ) fun a hF => ?_
  refine tQ 4 rfl hF (hS.keep sQ zQ) (q_s2ap ty166 rfl omQ) fun a hF => ?_
  refine tQ 5 rfl hF (hS.keep sQ (sN2)) (q_ld_blkA ty166 0 rfl rfl rfl (by simp) rfl) fun a hF => ?_
  refine goW_fork [6, 7] kQ rfl ⟨?_, ?_, trivial⟩
  ·refine stepW_ef _ rfl rfl hF hS rfl (ef_allocA ty166) ?_
   rintro _ _ _ a w ⟨b_2_6, rfl, rfl, rfl⟩ hF hS
   refine ⟨⟨.inr (hS.k1 (sN3)), .inr hS.k0, .inr (hS.k1 (sN3)), .inr (hS.k1 (sN3)), .inr hS.k0, .inr (hS.k1 (sN3)), trivial⟩, ?_⟩
   refine gQ 7 rfl rfl hF hS rfl (ef_allocA ty166) ?_
   rintro _ _ _ a w ⟨b_2_7, rfl, rfl, rfl⟩ hF hS
   refine ⟨⟨.inr (hS.k1 (sN4)), .inr hS.k0, .inr (hS.k1 (sN4)), .inr (hS.k1 (sN4)), .inr hS.k0, .inr (hS.k1 (sN4)), trivial⟩, ?_⟩
   refine gQ 8 rfl rfl hF hS rfl (ef_storeW ty166 1 rfl rfl rfl rfl bQ oQ bQ) ?_
   rintro _ _ _ a w ⟨rfl, rfl, rfl⟩ hF hS
   refine ⟨⟨.inr (hS.k1 (sN4)), .inr hS.k0, .inr (hS.k1 (sN4)), iQ, iQ, iQ, trivial⟩, ?_⟩
   refine gQ 9 rfl rfl hF hS rfl (ef_storeW ty166 0 rfl rfl rfl rfl bQ oQ bQ) ?_
   rintro _ _ _ a w ⟨rfl, rfl, rfl⟩ hF hS
   refine ⟨⟨iQ, iQ, iQ, iQ, iQ, iQ, trivial⟩, ?_⟩
   exact goW_done kQ (j2_mk b_2_6 b_2_7 (trivial) (hF.sub (L' := [(2, _), (4, _), (5, _), (6, _), (7, _)]) ⟨rfl, rfl, rfl, rfl, rfl, trivial⟩) hS)
  ·refine stepW_ef _ rfl rfl hF hS rfl (ef_allocA ty166) ?_
   rintro _ _ _ a w ⟨b_2_7, rfl, rfl, rfl⟩ hF hS
   refine ⟨⟨.inr (hS.k1 (sN3)), .inr hS.k0, .inr (hS.k1 (sN3)), .inr (hS.k1 (sN3)), .inr hS.k0, .inr (hS.k1 (sN3)), trivial⟩, ?_⟩
   refine gQ 6 rfl rfl hF hS rfl (ef_allocA ty166) ?_
   rintro _ _ _ a w ⟨b_2_6, rfl, rfl, rfl⟩ hF hS
   refine ⟨⟨.inr (hS.k1 (sN4)), .inr hS.k0, .inr (hS.k1 (sN4)), .inr (hS.k1 (sN4)), .inr hS.k0, .inr (hS.k1 (sN4)), trivial⟩, ?_⟩
   refine gQ 8 rfl rfl hF hS rfl (ef_storeW ty166 0 rfl rfl rfl rfl bQ oQ bQ) ?_
   rintro _ _ _ a w ⟨rfl, rfl, rfl⟩ hF hS
   refine ⟨⟨.inr (hS.k1 (sN4)), .inr hS.k0, .inr (hS.k1 (sN4)), iQ, iQ, iQ, trivial⟩, ?_⟩
   refine gQ 9 rfl rfl hF hS rfl (ef_storeW ty166 1 rfl rfl rfl rfl bQ oQ bQ) ?_
   rintro _ _ _ a w ⟨rfl, rfl, rfl⟩ hF hS
   refine ⟨⟨iQ, iQ, iQ, iQ, iQ, iQ, trivial⟩, ?_⟩
   exact goW_done kQ (j2_mk b_2_6 b_2_7 (trivial) (hF.sub (L' := [(2, _), (4, _), (5, _), (6, _), (7, _)]) ⟨rfl, rfl, rfl, rfl, rfl, trivial⟩) (hS.perm (.swap _ _ _)))
 rintro a w ⟨b_2_6, b_2_7, -, hF, hS⟩
 (try dsimp only at hF hS)
 refine hK3 _ _ ?_
 refine k0 ?_; intro K4 hK4
 refine regS hF hS (q0 (q_ld_oldW ty162 rfl hg1 bQ rfl) <| mQ rfl <| sq_end) fun a w hF hS => ?_
 refine wp_block ?_
 obtain ⟨hs0, hhs0, hS⟩ := hS.oh
 refine wp_loopx (γ := Int) (0) (fun (i : Int) => [(22, vi i)]) [(2, _), (4, _), (5, _), (6, _), (7, _), (21, _)] (fun (i : Int) => ((hs0.set 1 (.blk b_2_6 166 [vw (Sha.rounds (Sha.sch bb 64) (a0, a1, a2, a3, a4, a5, a6, a7) i.toNat).1, vw (Sha.rounds (Sha.sch bb 64) (a0, a1, a2, a3, a4, a5, a6, a7) i.toNat).2.1, vw (Sha.rounds (Sha.sch bb 64) (a0, a1, a2, a3, a4, a5, a6, a7) i.toNat).2.2.1, vw (Sha.rounds (Sha.sch bb 64) (a0, a1, a2, a3, a4, a5, a6, a7) i.toNat).2.2.2.1])).set 0 (.blk b_2_7 166 [vw (Sha.rounds (Sha.sch bb 64) (a0, a1, a2, a3, a4, a5, a6, a7) i.toNat).2.2.2.2.1, vw (Sha.rounds (Sha.sch bb 64) (a0, a1, a2, a3, a4, a5, a6, a7) i.toNat).2.2.2.2.2.1, vw (Sha.rounds (Sha.sch bb 64) (a0, a1, a2, a3, a4, a5, a6, a7) i.toNat).2.2.2.2.2.2.1, vw (Sha.rounds (Sha.sch bb 64) (a0, a1, a2, a3, a4, a5, a6, a7) i.toNat).2.2.2.2.2.2.2]))) (fun (i : Int) => 0 ≤ i ∧ i ≤ 64) (fun (i : Int) => (64 - i).toNat) (hF.sub ⟨rfl, rfl, rfl, rfl, rfl, rfl, rfl, trivial⟩) (by subst hhs0; exact hS) (by simp) ?_
 rintro i a w hfact hF hS
 subst hhs0; (try dsimp only at hfact hF hS)
 obtain ⟨hi0, hi1⟩ := hfact
 replace hS := nl0_5 hS
 refine regS hF hS (q0 (q_lti rfl rfl) <| sq_end) fun a w hF hS => ?_
 refine k0 ?_; intro K7 hK7
 refine wp_ifd hF rfl (fun hc1 => ?_) (fun hc1 => ?_)
 ·refine wp_skip ?_
  refine hK7 _ _ ?_
  refine k0 ?_; intro K8 hK8
  refine wp_block ?_
  refine regS hF hS (mQ rfl <| q0 (q_idx_aggM ty162 ty151 (0 : UInt32) rfl rfl omQ bQ rfl) <| aQ rfl <| aQ rfl <| sq_end) fun a w hF hS => ?_
  refine regdS mixed kQ hF hS (q0 (q_idx_arr ty166 ty151 rfl rfl omQ) <| q0 (q_ld_blk1 ty151 0 rfl rfl rfl rfl) <| q0 (q_idx_arr ty166 ty151 rfl rfl omQ) <| q0 (q_ld_blk1 ty151 0 rfl rfl rfl rfl) <| q0 (q_call fn116 rfl (fun w hS => mix_ct _ _ _ _ omQ omQ omQ w ) hI) <| q0 (q_addw rfl rfl) <| q0 (q_idx_arr ty166 ty151 rfl rfl omQ) <| q0 (q_ld_blk1 ty151 0 rfl rfl rfl rfl) <| q0 (q_idx_arr ty166 ty151 rfl rfl omQ) <| q0 (q_ld_blk1 ty151 0 rfl rfl rfl rfl) <| q0 (q_andw rfl rfl) <| q0 (q_idx_arr ty166 ty151 rfl rfl omQ) <| q0 (q_ld_blk1 ty151 0 rfl rfl rfl rfl) <| q0 (q_notw rfl) <| q0 (q_idx_arr ty166 ty151 rfl rfl omQ) <| q0 (q_ld_blk1 ty151 0 rfl rfl rfl rfl) <| q0 (q_andw rfl rfl) <| q0 (q_xorw rfl rfl) <| q0 (q_addw rfl rfl) <| mQ rfl <| q0 (q_addw rfl rfl) <| mQ rfl <| q0 (q_idx_arr0 ty162 ty151 rfl rfl omQ) <| q0 (q_ld_blkM ty151 2 0 rfl rfl bQ rfl) <| q0 (q_addw rfl rfl) <| aQ rfl <| sq_end) fun a w hF hS => ?_
  refine regdS mixed kQ hF hS (q0 (q_idx_arr ty166 ty151 rfl rfl omQ) <| q0 (q_ld_blk1 ty151 1 rfl rfl rfl rfl) <| q0 (q_call fn116 rfl (fun w hS => mix_ct _ _ _ _ omQ omQ omQ w ) hI) <| q0 (q_idx_arr ty166 ty151 rfl rfl omQ) <| q0 (q_ld_blk1 ty151 1 rfl rfl rfl rfl) <| q0 (q_idx_arr ty166 ty151 rfl rfl omQ) <| q0 (q_ld_blk1 ty151 1 rfl rfl rfl rfl) <| q0 (q_andw rfl rfl) <| q0 (q_idx_arr ty166 ty151 rfl rfl omQ) <| q0 (q_ld_blk1 ty151 1 rfl rfl rfl rfl) <| q0 (q_idx_arr ty166 ty151 rfl rfl omQ) <| q0 (q_ld_blk1 ty151 1 rfl rfl rfl rfl) <| q0 (q_andw rfl rfl) <| q0 (q_xorw rfl rfl) <| q0 (q_idx_arr ty166 ty151 rfl rfl omQ) <| q0 (q_ld_blk1 ty151 1 rfl rfl rfl rfl) <| q0 (q_idx_arr ty166 ty151 rfl rfl omQ) <| q0 (q_ld_blk1 ty151 1 rfl rfl rfl rfl) <| q0 (q_andw rfl rfl) <| q0 (q_xorw rfl rfl) <| q0 (q_addw rfl rfl) <| aQ rfl <| sq_end) fun a w hF hS => ?_
  refine reglS fun K12 hK12 => ?_
  refine lQ hF hS (q0 (q_idx_arr ty166 ty151 rfl rfl omQ) <| q0 (q_ld_blk1 ty151 1 rfl rfl rfl rfl) <| mQ rfl <| q0 (q_addw rfl rfl) <| q0 (q_idx_arr ty166 ty151 rfl rfl omQ) <| q0 (q_ld_blk1 ty151 0 rfl rfl rfl rfl) <| q0 (q_idx_arr ty166 ty151 rfl rfl omQ) <| q0 (q_ld_blk1 ty151 0 rfl rfl rfl rfl) <| q0 (q_idx_arr ty166 ty151 rfl rfl omQ) <| q0 (q_ld_blk1 ty151 0 rfl rfl rfl rfl) <| q0 (q_buildA1 ty166 ty151 rfl rfl oQ rfl rfl) <| sq_end) fun a w hF hS => ?_
  refine eQ hF hS rfl (ef_storeW ty166 0 rfl rfl rfl rfl bQ oQ bQ) ?_
  rintro _ _ _ a w ⟨rfl, rfl, rfl⟩ hF hS
  replace hS := nl0_5 hS
  refine wpList_nil (hK12 _ _ ?_)
  refine regl ?_
  refine lQ hF hS (mQ rfl <| mQ rfl <| q0 (q_addw rfl rfl) <| q0 (q_idx_arr ty166 ty151 rfl rfl omQ) <| q0 (q_ld_blk1 ty151 1 rfl rfl rfl rfl) <| q0 (q_idx_arr ty166 ty151 rfl rfl omQ) <| q0 (q_ld_blk1 ty151 1 rfl rfl rfl rfl) <| q0 (q_idx_arr ty166 ty151 rfl rfl omQ) <| q0 (q_ld_blk1 ty151 1 rfl rfl rfl rfl) <| q0 (q_buildA1 ty166 ty151 rfl rfl oQ rfl rfl) <| sq_end) fun a w hF hS => ?_
  refine eQ hF hS rfl (ef_storeW ty166 1 rfl rfl rfl rfl bQ oQ bQ) ?_
  rintro _ _ _ a w ⟨rfl, rfl, rfl⟩ hF hS
  replace hS := nl0_5 hS
  refine wpList_nil (hK8 _ _ ?_)
  refine reg hF hS (pQ rfl rfl <| mQ rfl <| sq_end) fun a w hF hS => ?_
  refine ⟨(i + 1), ?_, ?_, hF.sub ⟨rfl, rfl, rfl, rfl, rfl, rfl, rfl, trivial⟩, ?_⟩
  ·(try dsimp only); omega
  ·(try dsimp only); omega
  ·rw [Sha.rounds_succ _ _ i hi0]
   exact hS
 ·obtain rfl : i = 64 := by omega
  rw [show (64 : Int).toNat = 64 from rfl] at hS
  generalize hR : Sha.rounds (Sha.sch bb 64) (a0, a1, a2, a3, a4, a5, a6, a7) 64 = R at hS
  obtain ⟨r0, r1, r2, r3, r4, r5, r6, r7⟩ := R
  dsimp only at hS
  refine wp_exit ?_
  refine hK4 _ _ ?_
  refine k0 ?_; intro K13 hK13
  refine regS hF hS (mQ rfl <| sq_end) fun a w hF hS => ?_
  refine wp_block ?_
  obtain ⟨hs0, hhs0, hS⟩ := hS.oh
  refine wp_loopx (γ := Int) (0) (fun (i : Int) => [(94, vi i)]) [(2, _), (4, _), (6, _), (7, _)] (fun (i : Int) => (((hs0.set 4 (.blk b1 152 ((Sha.upd [a0, a1, a2, a3, a4, a5, a6, a7] [r0, r1, r2, r3, r4, r5, r6, r7] i.toNat).map vw))).set 1 (.blk b_2_6 166 ([r0, r1, r2, r3].map vw))).set 0 (.blk b_2_7 166 ([r4, r5, r6, r7].map vw)))) (fun (i : Int) => 0 ≤ i ∧ i ≤ 4) (fun (i : Int) => (4 - i).toNat) (hF.sub ⟨rfl, rfl, rfl, rfl, rfl, trivial⟩) (by subst hhs0; exact hS) (by simp) ?_
  rintro i a w hfact hF hS
  subst hhs0; (try dsimp only at hfact hF hS)
  obtain ⟨hi0, hi1⟩ := hfact
  replace hS := nl0_5 hS
  have hul := Sha.upd_len [a0, a1, a2, a3, a4, a5, a6, a7] [r0, r1, r2, r3, r4, r5, r6, r7] i.toNat
  refine regS hF hS (q0 (q_lti rfl rfl) <| sq_end) fun a w hF hS => ?_
  refine k0 ?_; intro K16 hK16
  refine wp_ifd hF rfl (fun hc2 => ?_) (fun hc2 => ?_)
  ·refine wp_skip ?_
   refine hK16 _ _ ?_
   refine k0 ?_; intro K17 hK17
   refine wp_block ?_
   refine regS hF hS (mQ rfl <| aQ rfl <| sq_end) fun a w hF hS => ?_
   refine k0 ?_; intro K19 hK19
   refine regt 8 mixed kQ hF hS (mQ rfl <| q0 (q_idx_arr0 ty152 ty151 rfl rfl omQ) <| q0 (q_ld_blkM ty151 4 0 rfl rfl bQ rfl) <| mQ rfl <| q0 (q_idx_arr0 ty166 ty151 rfl rfl omQ) <| q0 (q_ld_blkM ty151 1 0 rfl rfl bQ rfl) <| q0 (q_addw rfl rfl) <| q0 (q_idx_arr0 ty152 ty151 rfl rfl omQ) <| sq_end) fun a w hF hS => ?_
   refine eQ hF hS rfl (ef_st_blkM ty151 4 rfl rfl rfl bQ rfl) ?_
   rintro _ _ _ a w ⟨rfl, rfl, rfl⟩ hF hS
   replace hS := nl0_5 hS
   refine wpList_nil (hK19 _ _ ?_)
   refine regt 9 mixed kQ hF hS (mQ rfl <| pQ rfl rfl <| q0 (q_idx_arr0 ty152 ty151 rfl rfl omQ) <| q0 (q_ld_blkM ty151 4 0 rfl rfl bQ rfl) <| mQ rfl <| q0 (q_idx_arr0 ty166 ty151 rfl rfl omQ) <| q0 (q_ld_blkM ty151 0 0 rfl rfl bQ rfl) <| q0 (q_addw rfl rfl) <| q0 (q_idx_arr0 ty152 ty151 rfl rfl omQ) <| sq_end) fun a w hF hS => ?_
   refine eQ hF hS rfl (ef_st_blkM ty151 4 rfl rfl rfl bQ rfl) ?_
   rintro _ _ _ a w ⟨rfl, rfl, rfl⟩ hF hS
   replace hS := nl0_5 hS
   refine wpList_nil (hK17 _ _ ?_)
   refine reg hF hS (pQ rfl rfl <| mQ rfl <| sq_end) fun a w hF hS => ?_
   refine ⟨(i + 1), ?_, ?_, hF.sub ⟨rfl, rfl, rfl, rfl, rfl, trivial⟩, ?_⟩
   ·(try dsimp only); omega
   ·(try dsimp only); omega
   ·have h4 : i = 0 ∨ i = 1 ∨ i = 2 ∨ i = 3 := by omega
    rcases h4 with rfl | rfl | rfl | rfl <;> exact hS
  ·obtain rfl : i = 4 := by omega
   have hul4 := Sha.upd_len [a0, a1, a2, a3, a4, a5, a6, a7] [r0, r1, r2, r3, r4, r5, r6, r7] 4
   have hcomp : Sha.comp [a0, a1, a2, a3, a4, a5, a6, a7] bb = Sha.upd [a0, a1, a2, a3, a4, a5, a6, a7] [r0, r1, r2, r3, r4, r5, r6, r7] 4 := by
    show List.zipWith (· + ·) [a0, a1, a2, a3, a4, a5, a6, a7] (Sha.l8 (Sha.rounds (Sha.sch bb 64) (a0, a1, a2, a3, a4, a5, a6, a7) 64)) = _
    rw [hR]
    rfl
   refine wp_exit ?_
   refine hK13 _ _ ?_
   refine reglS fun K20 hK20 => ?_
   refine lQ hF hS (q0 (q_ld_blkW ty152 4 rfl rfl bQ rfl) <| sq_end) fun a w hF hS => ?_
   refine eQ hF hS rfl (ef_storeW ty152 3 rfl rfl rfl rfl bQ oQ bQ) ?_
   rintro _ _ _ a w ⟨rfl, rfl, rfl⟩ hF hS
   replace hS := nl0_5 hS
   refine wpList_nil (hK20 _ _ ?_)
   refine wp_ret ?_
   exact fn_ret (rs := [.cell 4 152]) rfl hF hS (vs := [_]) ⟨⟨_, _, _, _, _, _, _, rfl, List.mem_of_getElem? (i := 3) rfl, ty152, .inl ⟨rfl, bQ, rfl⟩⟩, trivial⟩ zQ zQ (by rw [hcomp]; rfl)
end
section
theorem ty9 : Tf Tryd.prog 9 .string 1 16 (Value.string ⟨(List.nil : List UInt8).toArray⟩) := ⟨Tryd.underlying9, by kernel_rfl⟩
theorem ty116 : Tf Tryd.prog 116 (.int .u64) 1 8 (Value.int .u64 0) := ⟨Tryd.underlying116, by kernel_rfl⟩
theorem ty153 : Tf Tryd.prog 153 (.array 64 5) 64 64 (.agg (List.replicate 64 (Value.int .u8 0)).toArray) := ⟨Tryd.underlying153, by kernel_rfl⟩
theorem ty155 : Tf Tryd.prog 155 (.struct #[⟨ "state", 152, 0, false, "", "culprit/hash", 0⟩, ⟨ "block", 153, 8, false, "", "culprit/hash", 32⟩, ⟨ "n", 116, 72, false, "", "culprit/hash", 96⟩]) 73 104 (.agg (List.replicate 8 (Value.int .u32 0) ++ List.replicate 64 (Value.int .u8 0) ++ [Value.int .u64 0]).toArray) := ⟨Tryd.underlying155, by kernel_rfl⟩
theorem fn113 : FnOk Tryd.prog 113 := fQ Tryd.func113
/-- A stream's cells. -/
@[reducible] def stmC (s : Sha.Stm) : List Value := s.st.map vw ++ (s.bl.map vb ++ [vq s.n])
theorem begin_ct (w : World) : Ct Tryd.prog 103 [] w (fun r _ _ => r = .agg (stmC Sha.begin_).toArray) := by
 refine fn_enter Tryd.func103 rfl Tryd.ntmps103 lB fun a hF hS => ?_
 refine reglS fun K1 hK1 => ?_
 refine eQ hF hS rfl (ef_allocA ty155) ?_
 rintro _ _ _ a w ⟨b1, rfl, rfl, rfl⟩ hF hS
 refine wpList_nil (hK1 _ _ ?_)
 refine reglS fun K2 hK2 => ?_
 refine lQ hF hS (q0 (q_buildA1 ty152 ty151 rfl rfl oQ rfl rfl) <| q0 (q_build rfl (run_build_struct ty155 (places := [(0, 8), (8, 64), (72, 1)]) kQ (cells := stmC Sha.begin_) kQ)) <| sq_end) fun a w hF hS => ?_
 refine eQ hF hS rfl (ef_storeW ty155 0 rfl rfl rfl rfl bQ oQ bQ) ?_
 rintro _ _ _ a w ⟨rfl, rfl, rfl⟩ hF hS
 (try dsimp only [segs] at hS)
 replace hS := nl0_1 hS
 refine wpList_nil (hK2 _ _ ?_)
 refine wp_ret ?_
 exact fn_ret (rs := [.cell 0 155]) rfl hF hS (vs := [_]) ⟨⟨_, _, _, _, _, _, _, rfl, List.mem_of_getElem? (i := 0) rfl, ty155, .inl ⟨rfl, bQ, rfl⟩⟩, trivial⟩ zQ zQ (rfl)
theorem add_ct (s : Sha.Stm) (t : List UInt8) (h8 : s.st.length = 8) (h64 : s.bl.length = 64) (ht : t.length < 1099511627776) (w : World) {fz1 : Nat × Nat} {bt1 : TypeId} (hg1 : w.heap[2]? = some (.cells (Sha.kc.map vw).toArray bt1 fz1)) : Ct Tryd.prog 104 [.agg (stmC s).toArray, vs t] w (fun r _ _ => r = .agg (stmC (Sha.adds s t)).toArray) := by
 refine fn_enter Tryd.func104 rfl Tryd.ntmps104 lB fun a hF hS => ?_
 refine reglS fun K1 hK1 => ?_
 refine eQ hF hS rfl (ef_boxA rfl) ?_
 rintro _ _ _ a w ⟨b1, rfl, rfl, rfl⟩ hF hS
 refine eQ hF hS rfl (ef_allocA ty155) ?_
 rintro _ _ _ a w ⟨b2, rfl, rfl, rfl⟩ hF hS
 refine wpList_nil (hK1 _ _ ?_)
 refine k0 ?_; intro K2 hK2
 refine wp_block ?_
 obtain ⟨hs0, hhs0, hS⟩ := hS.oh
 refine wp_loopx (γ := Sha.Stm × List UInt8) (s, t) (fun (s', t') => [(1, vs t')]) [(2, _), (4, _)] (fun (s', t') => (hs0.set 1 (.blk b1 155 (s'.st.map vw ++ (s'.bl.map vb ++ [vq s'.n]))))) (fun (s', t') => s'.st.length = 8 ∧ s'.bl.length = 64 ∧ t'.length < 1099511627776 ∧ Sha.adds s' t' = Sha.adds s t) (fun (s', t') => t'.length) (hF.sub ⟨rfl, rfl, rfl, trivial⟩) (by subst hhs0; exact hS) (by exact ⟨h8, h64, ht, rfl⟩) ?_
 rintro ⟨s', t'⟩ a w hfact hF hS
 subst hhs0; (try dsimp only at hfact hF hS)
 obtain ⟨h8, h64, ht, hadd⟩ := hfact
 replace hS := nl0_2 hS
 refine k0 ?_; intro K3 hK3
 refine regS hF hS (mQ rfl <| q0 (q_nes (q := []) rfl rfl) <| sq_end) fun a w hF hS => ?_
 refine wp_ifn hF rfl (fun hc1 => ?_) (fun hc1 => ?_)
 ·have htpos : 0 < t'.length := by
   cases t' with
   | nil => exact absurd rfl hc1
   | cons c t => simp
  refine wp_skip ?_
  refine hK3 _ _ ?_
  refine wp_block ?_
  refine k0 ?_; intro K5 hK5
  refine reg hF hS (q0 (q_fieldAddr ty155 rfl rfl (s' := 0) kQ) <| q0 (q_ld_seg1 ty116 1 [_, _] rfl rfl bQ rfl) <| q0 (q_remq (q := 64) rfl rfl deQ) <| q0 (q_cv_qi ty116 ty3 rfl) <| aQ rfl <| sq_end) fun a w hF hS => ?_
  rw [Sha.at_sgn s'.n] at hF
  generalize hat : s'.n.toNat % 64 = q at hF
  have hq : q < 64 := by omega
  refine hK5 _ _ ?_
  refine reglS fun K6 hK6 => ?_
  refine lQ hF hS (q0 (q_fieldAddr ty155 rfl rfl (s' := 63) kQ) <| mQ rfl <| q0 (q_sla_lo ty153 ty5 rfl rfl omQ) <| mQ rfl <| sq_end) fun a w hF hS => ?_
  refine eQ hF hS rfl (ef_copy_segM ty39 ty5 1 [_] rfl rfl rfl bQ bQ) ?_
  rintro _ _ _ a w ⟨rfl, rfl, rfl⟩ hF hS
  (try dsimp only [segs] at hS)
  replace hS := nl0_2 hS
  refine lQ hF hS (aQ rfl <| sq_end) fun a w hF hS => ?_
  refine wpList_nil ?_
  simp only [Int.toNat_natCast] at hS hF
  obtain ⟨k, hk⟩ : ∃ k, k = min t'.length (64 - q) := ⟨_, rfl⟩
  rw [← hk] at hS
  rw [show min (t'.length : Int) ((64 - q : Nat) : Int) = (k : Int) by omega] at hF
  have hbl : (List.take q s'.bl ++ (List.take k t' ++ List.drop (q + k) s'.bl)).length = 64 := by simp; omega
  generalize hB : List.take q s'.bl ++ (List.take k t' ++ List.drop (q + k) s'.bl) = B at hS hbl
  refine hK6 _ _ ?_
  refine k0 ?_; intro K7 hK7
  refine reg hF hS (mQ rfl <| mQ rfl <| q0 (q_sl_s_lo ty9 rfl rfl omQ) <| aQ rfl <| sq_end) fun a w hF hS => ?_
  simp only [Int.toNat_natCast] at hF
  refine hK7 _ _ ?_
  refine reglS fun K8 hK8 => ?_
  refine lQ hF hS (q0 (q_fieldAddr ty155 rfl rfl (s' := 0) kQ) <| q0 (q_ld_seg1 ty116 1 [_, _] rfl rfl bQ rfl) <| mQ rfl <| q0 (q_cv_iq ty3 ty116 rfl) <| q0 (q_addq rfl rfl) <| q0 (q_fieldAddr ty155 rfl rfl (s' := 0) kQ) <| sq_end) fun a w hF hS => ?_
  refine eQ hF hS rfl (ef_st_seg1 ty116 1 [_, _] rfl rfl rfl bQ rfl) ?_
  rintro _ _ _ a w ⟨rfl, rfl, rfl⟩ hF hS
  (try dsimp only [segs] at hS)
  replace hS := nl0_2 hS
  refine wpList_nil (hK8 _ _ ?_)
  refine regS hF hS (mQ rfl <| mQ rfl <| pQ rfl rfl <| q0 (q_eqi rfl rfl) <| sq_end) fun a w hF hS => ?_
  refine wp_ifd hF rfl (fun hc2 => ?_) (fun hc2 => ?_)
  ·have hcl := Sha.comp_len s'.st B h8
   refine regt 6 mixed kQ hF hS (q0 (q_fieldAddr ty155 rfl rfl (s' := 7) kQ) <| q0 (q_ld_seg ty152 1 [] rfl rfl bQ bQ rfl) <| q0 (q_fieldAddr ty155 rfl rfl (s' := 63) kQ) <| q0 (q_sla ty153 ty5 rfl) <| q0 (q_call fn113 rfl (fun w hS => compress_ct _ _ _ (by first | assumption | rfl | (simp; done) | (simp; omega)) (by first | assumption | omega | (simp; omega)) w (blk_segV hS 1 [_] rfl bQ omQ (by simp)) (hS.ext _ _ hg1)) hI) <| q0 (q_fieldAddr ty155 rfl rfl (s' := 7) kQ) <| sq_end) fun a w hF hS => ?_
   refine eQ hF hS rfl (ef_st_seg ty152 1 [] rfl rfl rfl bQ bQ bQ (fun _ => rfl)) ?_
   rintro _ _ _ a w ⟨rfl, rfl, rfl⟩ hF hS
   (try dsimp only [segs] at hS)
   replace hS := nl0_2 hS
   refine wpList_nil ?_
   refine ⟨(⟨Sha.comp s'.st B, B, s'.n + ofq (k : Int)⟩, t'.drop k), ?_, ?_, hF.sub ⟨rfl, rfl, rfl, trivial⟩, ?_⟩
   ·dsimp only; rw [List.length_drop]; omega
   ·exact ⟨Sha.comp_len _ _ h8, hbl, by rw [List.length_drop]; omega, by rw [← hadd, Sha.adds_chunk s' t' q k hat h64 omQ omQ, if_pos omQ, hB]⟩
   ·exact hS
  ·refine wp_skip ?_
   refine ⟨(⟨s'.st, B, s'.n + ofq (k : Int)⟩, t'.drop k), ?_, ?_, hF.sub ⟨rfl, rfl, rfl, trivial⟩, ?_⟩
   ·dsimp only; rw [List.length_drop]; omega
   ·exact ⟨h8, hbl, by rw [List.length_drop]; omega, by rw [← hadd, Sha.adds_chunk s' t' q k hat h64 omQ omQ, if_neg omQ, hB]⟩
   ·exact hS
 ·obtain rfl := hc1
  refine wp_exit ?_
  refine hK2 _ _ ?_
  refine reglS fun K10 hK10 => ?_
  refine lQ hF hS (q0 (q_ld_blkW ty155 1 rfl rfl bQ rfl) <| sq_end) fun a w hF hS => ?_
  refine eQ hF hS rfl (ef_storeW ty155 0 rfl rfl rfl rfl bQ oQ bQ) ?_
  rintro _ _ _ a w ⟨rfl, rfl, rfl⟩ hF hS
  (try dsimp only [segs] at hS)
  replace hS := nl0_2 hS
  refine wpList_nil (hK10 _ _ ?_)
  refine wp_ret ?_
  exact fn_ret (rs := [.cell 4 155]) rfl hF hS (vs := [_]) ⟨⟨_, _, _, _, _, _, _, rfl, List.mem_of_getElem? (i := 0) rfl, ty155, .inl ⟨rfl, bQ, rfl⟩⟩, trivial⟩ zQ zQ (by rw [← hadd]; rfl)
end
section
theorem ty141 : Tf Tryd.prog 141 (.array 32 5) 32 32 (.agg (List.replicate 32 (Value.int .u8 0)).toArray) := ⟨Tryd.underlying141, by kernel_rfl⟩
theorem fn104 : FnOk Tryd.prog 104 := fQ Tryd.func104
theorem ssum_ct (s : Sha.Stm) (h8 : s.st.length = 8) (h64 : s.bl.length = 64) (hn : s.n.toNat < 2199023255552) (w : World) {fz1 : Nat × Nat} {bt1 : TypeId} (hg1 : w.heap[2]? = some (.cells (Sha.kc.map vw).toArray bt1 fz1)) : Ct Tryd.prog 105 [.agg (stmC s).toArray] w (fun r _ _ => r = .agg ((Sha.fin s).map vb).toArray) := by
 refine fn_enter Tryd.func105 rfl Tryd.ntmps105 lB fun a hF hS => ?_
 have hsg : sgn s.n = (s.n.toNat : Int) := by unfold sgn; rw [if_pos omQ]
 have hz := Sha.zeros_lt s.n.toNat
 have hbe := Sha.be8_len (8 * s.n)
 refine reglS fun K1 hK1 => ?_
 refine eQ hF hS rfl (ef_boxA rfl) ?_
 rintro _ _ _ a w ⟨b1, rfl, rfl, rfl⟩ hF hS
 refine eQ hF hS rfl (ef_allocA ty141) ?_
 rintro _ _ _ a w ⟨b2, rfl, rfl, rfl⟩ hF hS
 rw [show List.replicate 32 (Value.int .u8 0) = (List.replicate 32 (0 : UInt8)).map vb from by rw [List.map_replicate] <;> rfl] at hS
 refine wpList_nil (hK1 _ _ ?_)
 refine regS hF hS (q0 (q_fieldAddr ty155 rfl rfl (s' := 0) kQ) <| q0 (q_ld_seg1 ty116 1 [_, _] rfl rfl bQ rfl) <| q0 (q_mulq (p := 8) rfl rfl) <| aQ rfl <| sq_end) fun a w hF hS => ?_
 refine reglS fun K3 hK3 => ?_
 refine eQ hF hS rfl (ef_bsliceA ty39 ty5 rfl rfl oQ deQ rfl rfl) ?_
 rintro v3 _ _ a w ⟨rfl, rfl⟩ hF hS
 replace hS := nl0_3 hS
 refine lQ hF hS (aQ rfl <| sq_end) fun a w hF hS => ?_
 refine wpList_nil (hK3 _ _ ?_)
 refine k0 ?_; intro K4 hK4
 refine wp_block ?_
 obtain ⟨hs0, hhs0, hS⟩ := hS.oh
 refine wp_loopx (γ := Value × Nat) (v3, 0) (fun (v, j) => [(4, v)]) [(1, _), (2, _), (3, _)] (fun (v, j) => (hs0.set 0 (.row v 5 1 (1 + j) ((128 :: List.replicate j (0 : UInt8)).map vb)))) (fun (v, j) => j ≤ Sha.zerosFor s.n.toNat) (fun (v, j) => Sha.zerosFor s.n.toNat - j) (hF.sub ⟨rfl, rfl, rfl, rfl, trivial⟩) (by subst hhs0; exact hS) (by exact Nat.zero_le _) ?_
 rintro ⟨v, j⟩ a w hfact hF hS
 subst hhs0; (try dsimp only at hfact hF hS)
 have hj := hfact
 replace hS := nl0_3 hS
 refine k0 ?_; intro K5 hK5
 refine regS hF hS (q0 (q_fieldAddr ty155 rfl rfl (s' := 0) kQ) <| q0 (q_ld_seg1 ty116 2 [_, _] rfl rfl bQ rfl) <| q0 (q_cv_qi ty116 ty3 rfl) <| mQ rfl <| q0 (q_len_row ty39 0 rfl rfl) <| pQ rfl rfl <| q0 (q_remi rfl rfl omQ) <| q0 (q_nei rfl rfl) <| sq_end) fun a w hF hS => ?_
 refine wp_ifn hF rfl (fun hc1 => ?_) (fun hc1 => ?_)
 ·have hjl : j < Sha.zerosFor s.n.toNat := by
   have := Sha.zeros_at s.n.toNat
   rcases Nat.lt_or_ge j (Sha.zerosFor s.n.toNat) with h | h
   ·exact h
   ·obtain rfl : j = Sha.zerosFor s.n.toNat := by omega
    omega
  refine wp_skip ?_
  refine hK5 _ _ ?_
  refine wp_block ?_
  refine regl ?_
  refine lQ hF hS (mQ rfl <| sq_end) fun a w hF hS => ?_
  refine eQ hF hS rfl (ef_bsliceA ty39 ty5 rfl rfl oQ deQ rfl rfl) ?_
  rintro v5 _ _ a w ⟨rfl, rfl⟩ hF hS
  replace hS := nl0_4 hS
  refine eQ hF hS rfl (ef_append ty39 ty5 1 rfl rfl rfl (src_row ty39 (k := 0) rfl oQ) bQ rfl deQ) ?_
  rintro v7 _ _ a w ⟨rfl, rfl⟩ hF hS
  replace hS := nl0_4 hS
  refine lQ hF hS (aQ rfl <| sq_end) fun a w hF hS => ?_
  refine wpList_nil ?_
  replace hS := hS.keep zQ (sN1)
  refine ⟨(v7, j + 1), ?_, ?_, hF.sub ⟨rfl, rfl, rfl, rfl, trivial⟩, ?_⟩
  ·(try dsimp only); omega
  ·(try dsimp only); omega
  ·have e : (128 :: List.replicate j (0 : UInt8)).map vb ++ [Value.int .u8 0] = (128 :: List.replicate (j + 1) (0 : UInt8)).map vb := by rw [List.replicate_succ']; simp
   rw [e] at hS
   exact hS
 ·have hjz := Sha.zeros_un s.n.toNat j hj omQ
  subst hjz
  refine wp_exit ?_
  refine hK4 _ _ ?_
  refine k0 ?_; intro K7 hK7
  refine regS hF hS (mQ rfl <| sq_end) fun a w hF hS => ?_
  refine wp_block ?_
  obtain ⟨hs0, hhs0, hS⟩ := hS.oh
  refine wp_loopx (γ := Value × Int) (v, 0) (fun (v, i) => [(4, v), (23, vi i)]) [(1, _), (2, _), (3, _)] (fun (v, i) => (hs0.set 0 (.row v 5 1 (1 + Sha.zerosFor s.n.toNat + i.toNat) ((128 :: (List.replicate (Sha.zerosFor s.n.toNat) (0 : UInt8) ++ (Sha.be8 (8 * s.n)).take i.toNat)).map vb)))) (fun (v, i) => 0 ≤ i ∧ i ≤ 8) (fun (v, i) => (8 - i).toNat) (hF.sub ⟨rfl, rfl, rfl, rfl, rfl, trivial⟩) (by subst hhs0; simpa using hS) (by simp) ?_
  rintro ⟨v, i⟩ a w hfact hF hS
  subst hhs0; (try dsimp only at hfact hF hS)
  obtain ⟨hi0, hi1⟩ := hfact
  replace hS := nl0_3 hS
  refine regS hF hS (q0 (q_lti rfl rfl) <| sq_end) fun a w hF hS => ?_
  refine k0 ?_; intro K10 hK10
  refine wp_ifd hF rfl (fun hc2 => ?_) (fun hc2 => ?_)
  ·refine wp_skip ?_
   refine hK10 _ _ ?_
   refine k0 ?_; intro K11 hK11
   refine wp_block ?_
   refine regS hF hS (mQ rfl <| aQ rfl <| sq_end) fun a w hF hS => ?_
   refine regl ?_
   refine lQ hF hS (mQ rfl <| mQ rfl <| mQ rfl <| q0 (q_muli rfl rfl omQ) <| dQ rfl rfl <| q0 (q_shrq rfl rfl omQ) <| q0 (q_cv_qb ty116 ty5 rfl) <| sq_end) fun a w hF hS => ?_
   refine eQ hF hS rfl (ef_bsliceA ty39 ty5 rfl rfl oQ deQ rfl rfl) ?_
   rintro v8 _ _ a w ⟨rfl, rfl⟩ hF hS
   replace hS := nl0_4 hS
   refine eQ hF hS rfl (ef_append ty39 ty5 1 rfl rfl rfl (src_row ty39 (k := 0) rfl oQ) bQ rfl deQ) ?_
   rintro v10 _ _ a w ⟨rfl, rfl⟩ hF hS
   replace hS := nl0_4 hS
   refine lQ hF hS (aQ rfl <| sq_end) fun a w hF hS => ?_
   refine wpList_nil (hK11 _ _ ?_)
   refine reg hF hS (pQ rfl rfl <| mQ rfl <| sq_end) fun a w hF hS => ?_
   replace hS := hS.keep zQ (sN1)
   refine ⟨(v10, i + 1), ?_, ?_, hF.sub ⟨rfl, rfl, rfl, rfl, rfl, trivial⟩, ?_⟩
   ·(try dsimp only); omega
   ·(try dsimp only); omega
   ·rw [Sha.byte_q (8 * s.n) i ⟨hi0, by omega⟩] at hS
    have e : (128 :: (List.replicate (Sha.zerosFor s.n.toNat) (0 : UInt8) ++ (Sha.be8 (8 * s.n)).take i.toNat)).map vb ++ [vb (UInt8.ofNat ((8 * s.n).toNat / 2 ^ (56 - 8 * i.toNat)))] = (128 :: (List.replicate (Sha.zerosFor s.n.toNat) (0 : UInt8) ++ (Sha.be8 (8 * s.n)).take (i + 1).toNat)).map vb := by rw [show (i + 1).toNat = i.toNat + 1 by omega, Sha.be8_step _ _ omQ]; simp
    rw [e, show 1 + Sha.zerosFor s.n.toNat + i.toNat + 1 = 1 + Sha.zerosFor s.n.toNat + (i + 1).toNat by omega] at hS
    exact hS
  ·obtain rfl : i = 8 := by omega
   rw [show (8 : Int).toNat = 8 from rfl, List.take_of_length_le omQ] at hS
   have hpl := Sha.pad_len s.n
   have hal := Sha.adds_len s h8 h64 (Sha.pad s.n)
   change St _ [] [.row _ 5 1 _ ((Sha.pad s.n).map vb), _, _] _ at hS
   refine wp_exit ?_
   refine hK7 _ _ ?_
   refine reglS fun K13 hK13 => ?_
   refine lQ hF hS (q0 (q_ld_blkW ty155 2 rfl rfl bQ rfl) <| mQ rfl <| q0 (q_b2s_row ty39 ty9 ty5 0 rfl rfl) <| q0 (q_call fn104 rfl (fun w hS => add_ct _ _ (by first | assumption | rfl | (simp only [*]; done)) (by first | assumption | rfl | (simp only [*]; done)) (by first | assumption | omega | (simp; done) | (simp; omega) | (simp only [*]; omega)) w (hS.ext _ _ hg1)) hI) <| sq_end) fun a w hF hS => ?_
   refine eQ hF hS rfl (ef_storeW ty155 2 rfl rfl rfl rfl bQ oQ bQ) ?_
   rintro _ _ _ a w ⟨rfl, rfl, rfl⟩ hF hS
   (try dsimp only [segs] at hS)
   replace hS := nl0_3 hS
   refine wpList_nil (hK13 _ _ ?_)
   refine reglS fun K14 hK14 => ?_
   refine eQ hF hS rfl (ef_allocA ty141) ?_
   rintro _ _ _ a w ⟨b11, rfl, rfl, rfl⟩ hF hS
   rw [show List.replicate 32 (Value.int .u8 0) = (List.replicate 32 (0 : UInt8)).map vb from by rw [List.map_replicate] <;> rfl] at hS
   refine wpList_nil (hK14 _ _ ?_)
   refine k0 ?_; intro K15 hK15
   refine regS hF hS (mQ rfl <| sq_end) fun a w hF hS => ?_
   refine wp_block ?_
   obtain ⟨hs0, hhs0, hS⟩ := hS.oh
   refine wp_loopx (γ := Int) (0) (fun (i : Int) => [(40, vi i)]) [(1, _), (2, _), (6, _)] (fun (i : Int) => (hs0.set 0 (.blk b11 141 ((Sha.outW (Sha.adds s (Sha.pad s.n)).st i.toNat).map vb)))) (fun (i : Int) => 0 ≤ i ∧ i ≤ 32) (fun (i : Int) => (32 - i).toNat) (hF.sub ⟨rfl, rfl, rfl, rfl, trivial⟩) (by subst hhs0; exact hS) (by simp) ?_
   rintro i a w hfact hF hS
   subst hhs0; (try dsimp only at hfact hF hS)
   obtain ⟨hi0, hi1⟩ := hfact
   replace hS := nl0_4 hS
   have hol := Sha.outW_len (Sha.adds s (Sha.pad s.n)).st i.toNat
   refine regS hF hS (q0 (q_lti rfl rfl) <| sq_end) fun a w hF hS => ?_
   refine k0 ?_; intro K18 hK18
   refine wp_ifd hF rfl (fun hc3 => ?_) (fun hc3 => ?_)
   ·refine wp_skip ?_
    refine hK18 _ _ ?_
    refine k0 ?_; intro K19 hK19
    refine wp_block ?_
    refine regS hF hS (mQ rfl <| aQ rfl <| sq_end) fun a w hF hS => ?_
    refine regl ?_
    refine lQ hF hS (mQ rfl <| mQ rfl <| q0 (q_quoi rfl rfl omQ) <| q0 (q_fieldAddr ty155 rfl rfl (s' := 7) kQ) <| q0 (q_idx_arr ty152 ty151 rfl rfl omQ) <| q0 (q_ld_segM ty151 3 [] (0 : UInt32) rfl rfl bQ bQ rfl) <| mQ rfl <| q0 (q_remi rfl rfl omQ) <| q0 (q_muli rfl rfl omQ) <| dQ rfl rfl <| q0 (q_shrw rfl rfl omQ) <| q0 (q_cv_wb ty151 ty5 rfl) <| q0 (q_idx_arr0 ty141 ty5 rfl rfl omQ) <| sq_end) fun a w hF hS => ?_
    refine eQ hF hS rfl (ef_st_blkM ty5 0 rfl rfl rfl bQ rfl) ?_
    rintro _ _ _ a w ⟨rfl, rfl, rfl⟩ hF hS
    replace hS := nl0_4 hS
    refine wpList_nil (hK19 _ _ ?_)
    refine reg hF hS (pQ rfl rfl <| mQ rfl <| sq_end) fun a w hF hS => ?_
    refine ⟨(i + 1), ?_, ?_, hF.sub ⟨rfl, rfl, rfl, rfl, trivial⟩, ?_⟩
    ·(try dsimp only); omega
    ·(try dsimp only); omega
    ·rw [Sha.byte_w _ i ⟨hi0, by omega⟩, Sha.outW_step _ _ omQ, show i.toNat + 1 = (i + 1).toNat by omega] at hS
     exact hS
   ·obtain rfl : i = 32 := by omega
    rw [show (32 : Int).toNat = 32 from rfl, Sha.outW_32] at hS
    have hob := Sha.outB_len (Sha.adds s (Sha.pad s.n)).st
    refine wp_exit ?_
    refine hK15 _ _ ?_
    refine reglS fun K21 hK21 => ?_
    refine lQ hF hS (q0 (q_ld_blkW ty141 0 rfl rfl bQ rfl) <| sq_end) fun a w hF hS => ?_
    refine eQ hF hS rfl (ef_storeW ty141 2 rfl rfl rfl rfl bQ oQ bQ) ?_
    rintro _ _ _ a w ⟨rfl, rfl, rfl⟩ hF hS
    replace hS := nl0_4 hS
    refine wpList_nil (hK21 _ _ ?_)
    refine wp_ret ?_
    exact fn_ret (rs := [.cell 2 141]) rfl hF hS (vs := [_]) ⟨⟨_, _, _, _, _, _, _, rfl, List.mem_of_getElem? (i := 2) rfl, ty141, .inl ⟨rfl, bQ, rfl⟩⟩, trivial⟩ zQ zQ (rfl)
end
section
attribute [local irreducible] Sha.adds Sha.fin Sha.sum Sha.padK Sha.comp Sha.mac Sha.keyOf Sha.sch Sha.rounds Sha.outB
end
section
theorem fn39 : FnOk Tryd.prog 39 := fQ Tryd.func39
theorem wint_ct (n : Int) (w : World) : Ct Tryd.prog 39 [vi n] w (fun v zs hs => zs = [] ∧ hs = [.row v 5 1 (Wi.int n).length ((Wi.int n).map vb)]) := by
 refine fn_enter Tryd.func39 rfl Tryd.ntmps39 lB fun a hF hS => ?_
 refine regS hF hS (aQ rfl <| sq_end) fun a w hF hS => ?_
 refine wp_scope_straight ?_
 refine regS hF hS (mQ rfl <| q0 (q_cv_iq ty3 ty116 rfl) <| aQ rfl <| aQ rfl <| sq_end) fun a w hF hS => ?_
 obtain ⟨hs0, hhs0, hS⟩ := hS.oh
 refine wp_cutx (γ := UInt64 × UInt8) (fun (m, fl) => [(3, vq m), (4, vb fl)]) [] (fun (m, fl) => hs0) (fun (m, fl) => m = Wi.mOf n ∧ fl = Wi.flOf n) (hF.sub trivial) hS ?_ ?_
 ·subst hhs0
  refine regS hF hS (mQ rfl <| q0 (q_lti rfl rfl) <| sq_end) fun a w hF hS => ?_
  refine wp_ifd hF rfl (fun hc1 => ?_) (fun hc1 => ?_)
  ·refine reg hF hS (mQ rfl <| q0 (q_notq rfl) <| aQ rfl <| aQ rfl <| sq_end) fun a w hF hS => ?_
   refine ⟨(~~~(ofq n), 255), ?_, hF.sub ⟨rfl, rfl, trivial⟩, ?_⟩
   ·exact ⟨by unfold Wi.mOf; rw [if_pos hc1], by unfold Wi.flOf; rw [if_pos hc1]⟩
   ·exact hS
  ·refine wp_skip ?_
   refine ⟨(ofq n, 0), ?_, hF.sub ⟨rfl, rfl, trivial⟩, ?_⟩
   ·exact ⟨by unfold Wi.mOf; rw [if_neg hc1], by unfold Wi.flOf; rw [if_neg hc1]⟩
   ·exact hS
 rintro ⟨m, fl⟩ a w hfact hF hS
 subst hhs0; (try dsimp only at hfact hF hS)
 obtain ⟨hm, hfl⟩ := hfact
 replace hS : St _ [] [] _ := hS
 refine regS hF hS (aQ rfl <| sq_end) fun a w hF hS => ?_
 refine k0 ?_; intro K5 hK5
 refine wp_label ?_
 refine hK5 _ _ ?_
 obtain ⟨hs0, hhs0, hS⟩ := hS.oh
 refine wp_cutx (γ := Nat) (fun (k : Nat) => [(5, vi (k : Int))]) [(3, _), (4, _)] (fun (k : Nat) => hs0) (fun (k : Nat) => k ≤ 8 ∧ k = Wi.nb m) (hF.sub ⟨rfl, rfl, trivial⟩) hS ?_ ?_
 ·subst hhs0
  refine wp_block ?_
  obtain ⟨hs0, hhs0, hS⟩ := hS.oh
  refine wp_loopx (γ := Nat) (8) (fun (k : Nat) => [(5, vi (k : Int))]) [(3, _), (4, _)] (fun (k : Nat) => hs0) (fun (k : Nat) => k ≤ 8 ∧ Wi.nbF m k = Wi.nb m) (fun (k : Nat) => k) (hF.sub ⟨rfl, rfl, rfl, trivial⟩) (by subst hhs0; exact hS) (by exact ⟨Nat.le_refl _, rfl⟩) ?_
  rintro k a w hfact hF hS
  subst hhs0; (try dsimp only at hfact hF hS)
  obtain ⟨hk8, hnb⟩ := hfact
  replace hS : St _ [] [] _ := hS
  refine k0 ?_; intro K6 hK6
  refine regS hF hS (mQ rfl <| q0 (q_gti rfl rfl) <| sq_end) fun a w hF hS => ?_
  refine wp_ifd hF rfl (fun hc2 => ?_) (fun hc2 => ?_)
  ·obtain ⟨k, rfl⟩ : ∃ j, k = j + 1 := ⟨k - 1, by omega⟩
   refine wp_skip ?_
   refine hK6 _ _ ?_
   refine wp_block ?_
   refine k0 ?_; intro K8 hK8
   refine regS hF hS (mQ rfl <| mQ rfl <| dQ rfl rfl <| q0 (q_muli rfl rfl omQ) <| q0 (q_shrq rfl rfl omQ) <| q0 (q_gtq (q := 0) rfl rfl) <| sq_end) fun a w hF hS => ?_
   refine wp_ifd hF rfl (fun hc3 => ?_) (fun hc3 => ?_)
   ·rw [show ((k + 1 : Nat) : Int) - 1 = (k : Int) by omega, Wi.top_q m k omQ] at hc3
    refine wp_exit ?_
    refine ⟨(k + 1), ?_, hF.sub ⟨rfl, rfl, rfl, trivial⟩, ?_⟩
    ·refine ⟨hk8, ?_⟩
     rw [← hnb]
     unfold Wi.nbF
     rw [if_neg hc3]
    ·exact hS
   ·rw [show ((k + 1 : Nat) : Int) - 1 = (k : Int) by omega, Wi.top_q m k omQ] at hc3
    refine wp_skip ?_
    refine hK8 _ _ ?_
    refine reg hF hS (mQ rfl <| dQ rfl rfl <| aQ rfl <| sq_end) fun a w hF hS => ?_
    rw [show ((k + 1 : Nat) : Int) - 1 = (k : Int) by omega] at hF
    refine ⟨(k), ?_, ?_, hF.sub ⟨rfl, rfl, rfl, trivial⟩, ?_⟩
    ·(try dsimp only); omega
    ·refine ⟨by omega, ?_⟩
     rw [← hnb]
     conv => rhs; unfold Wi.nbF
     rw [if_pos (Classical.not_not.1 hc3)]
    ·exact hS
  ·refine wp_exit ?_
   refine ⟨(k), ?_, hF.sub ⟨rfl, rfl, rfl, trivial⟩, ?_⟩
   ·refine ⟨hk8, ?_⟩
    obtain rfl : k = 0 := by omega
    exact hnb
   ·exact hS
 rintro k a w hfact hF hS
 subst hhs0; (try dsimp only at hfact hF hS)
 obtain ⟨hk8, hkn⟩ := hfact
 replace hS : St _ [] [] _ := hS
 refine reglS fun K10 hK10 => ?_
 refine lQ hF hS (mQ rfl <| pQ rfl rfl <| q0 (q_cv_ib ty3 ty5 rfl) <| mQ rfl <| q0 (q_xorb rfl rfl) <| sq_end) fun a w hF hS => ?_
 refine eQ hF hS rfl (ef_bsliceA ty39 ty5 rfl rfl oQ deQ rfl rfl) ?_
 rintro v1 _ _ a w ⟨rfl, rfl⟩ hF hS
 replace hS := nl0_1 hS
 refine lQ hF hS (aQ rfl <| sq_end) fun a w hF hS => ?_
 refine wpList_nil (hK10 _ _ ?_)
 refine k0 ?_; intro K11 hK11
 refine regS hF hS (mQ rfl <| dQ rfl rfl <| aQ rfl <| sq_end) fun a w hF hS => ?_
 refine wp_block ?_
 obtain ⟨hs0, hhs0, hS⟩ := hS.oh
 refine wp_loopx (γ := Value × Nat) (v1, k) (fun (v, i) => [(6, v), (7, vi ((i : Int) - 1))]) [(3, _), (4, _)] (fun (v, i) => (hs0.set 0 (.row v 5 1 (1 + (k - i)) (((UInt8.ofNat (128 + k) ^^^ fl) :: Wi.digsFrom m fl k i).map vb)))) (fun (v, i) => i ≤ k) (fun (v, i) => i) (hF.sub ⟨rfl, rfl, rfl, rfl, trivial⟩) (by subst hhs0; rw [show (128 : Int) + (k : Int) = ((128 + k : Nat) : Int) by omega, Wi.ofb_nat] at hS; simpa [Wi.digsFrom] using hS) (by exact Nat.le_refl _) ?_
 rintro ⟨v, i⟩ a w hfact hF hS
 subst hhs0; (try dsimp only at hfact hF hS)
 have hik := hfact
 replace hS := nl0_1 hS
 refine k0 ?_; intro K13 hK13
 refine regS hF hS (mQ rfl <| q0 (q_gei rfl rfl) <| sq_end) fun a w hF hS => ?_
 refine wp_ifd hF rfl (fun hc4 => ?_) (fun hc4 => ?_)
 ·refine wp_skip ?_
  refine hK13 _ _ ?_
  refine k0 ?_; intro K15 hK15
  refine wp_block ?_
  refine regl ?_
  refine lQ hF hS (mQ rfl <| mQ rfl <| mQ rfl <| q0 (q_muli rfl rfl omQ) <| q0 (q_shrq rfl rfl omQ) <| q0 (q_cv_qb ty116 ty5 rfl) <| mQ rfl <| q0 (q_xorb rfl rfl) <| sq_end) fun a w hF hS => ?_
  refine eQ hF hS rfl (ef_bsliceA ty39 ty5 rfl rfl oQ deQ rfl rfl) ?_
  rintro v3 _ _ a w ⟨rfl, rfl⟩ hF hS
  replace hS := nl0_2 hS
  refine eQ hF hS rfl (ef_append ty39 ty5 1 rfl rfl rfl (src_row ty39 (k := 0) rfl oQ) bQ rfl deQ) ?_
  rintro v5 _ _ a w ⟨rfl, rfl⟩ hF hS
  replace hS := nl0_2 hS
  refine lQ hF hS (aQ rfl <| sq_end) fun a w hF hS => ?_
  refine wpList_nil (hK15 _ _ ?_)
  refine reg hF hS (mQ rfl <| dQ rfl rfl <| aQ rfl <| sq_end) fun a w hF hS => ?_
  rw [show (i : Int) - 1 - 1 = ((i - 1 : Nat) : Int) - 1 by omega] at hF
  replace hS := hS.keep zQ (sN1)
  refine ⟨(v5, i - 1), ?_, ?_, hF.sub ⟨rfl, rfl, rfl, rfl, trivial⟩, ?_⟩
  ·(try dsimp only); omega
  ·(try dsimp only); omega
  ·rw [Wi.digit_q m fl ((i : Int) - 1) omQ, show ((i : Int) - 1).toNat = i - 1 by omega] at hS
   have e : ((UInt8.ofNat (128 + k) ^^^ fl) :: Wi.digsFrom m fl k i).map vb ++ [vb (Wi.digit m fl (i - 1))] = ((UInt8.ofNat (128 + k) ^^^ fl) :: Wi.digsFrom m fl k (i - 1)).map vb := by rw [← Wi.digs_step m fl k (i - 1) omQ, show i - 1 + 1 = i by omega]; simp
   rw [e, show 1 + (k - i) + 1 = 1 + (k - (i - 1)) by omega] at hS
   exact hS
 ·obtain rfl : i = 0 := by omega
  have e : (UInt8.ofNat (128 + k) ^^^ fl) :: Wi.digsFrom m fl k 0 = Wi.int n := by rw [hm, hfl, hkn, hm]; rfl
  have el : 1 + (k - 0) = (Wi.int n).length := by rw [← e]; simp [Wi.digs_len]; omega
  rw [e, el] at hS
  refine wp_exit ?_
  refine hK11 _ _ ?_
  refine regS hF hS (mQ rfl <| aQ rfl <| sq_end) fun a w hF hS => ?_
  refine wp_ret ?_
  exact fn_ret (rs := [.tmp 2]) rfl hF hS (vs := [_]) ⟨rfl, trivial⟩ zQ sQ ⟨rfl, rfl⟩
theorem wbytes_ct (t : List UInt8) (ht : t.length < 1099511627776) (w : World) : Ct Tryd.prog 74 [vs t] w (fun v zs hs => zs = [] ∧ hs = [.row v 5 1 (Wi.bytes t).length ((Wi.bytes t).map vb)]) := by
 refine fn_enter Tryd.func74 rfl Tryd.ntmps74 lB fun a hF hS => ?_
 have hil := Wi.int_len9 t.length
 refine regS hF hS (aQ rfl <| sq_end) fun a w hF hS => ?_
 refine reglS fun K2 hK2 => ?_
 refine lQ hF hS (mQ rfl <| q0 (q_len_s ty9 rfl) <| sq_end) fun a w hF hS => ?_
 refine eQ hF hS rfl (ef_call fn39 rfl (fun w hS => wint_ct _ w )) ?_
 rintro v1 _ _ a w ⟨_, _, rfl, rfl, rfl, rfl⟩ hF hS
 replace hS := nl0_1 hS
 refine lQ hF hS (mQ rfl <| sq_end) fun a w hF hS => ?_
 refine eQ hF hS rfl (ef_append ty39 ty5 0 rfl rfl rfl (src_str ty9 _) bQ rfl deQ) ?_
 rintro v3 _ _ a w ⟨rfl, rfl⟩ hF hS
 replace hS := nl0_1 hS
 refine lQ hF hS (aQ rfl <| sq_end) fun a w hF hS => ?_
 refine wpList_nil (hK2 _ _ ?_)
 refine wp_ret ?_
 rw [← List.map_append, show (Wi.int t.length).length + t.length = (Wi.bytes t).length by simp [Wi.bytes]] at hS
 exact fn_ret (rs := [.tmp 2]) rfl hF hS (vs := [_]) ⟨rfl, trivial⟩ zQ sQ ⟨rfl, rfl⟩
end
section
theorem ty29 : Tf Tryd.prog 29 (.array 16 5) 16 16 (.agg (List.replicate 16 (Value.int .u8 0)).toArray) := ⟨Tryd.underlying29, by kernel_rfl⟩
theorem ty47 : Tf Tryd.prog 47 (.slice 9) 1 24 (Value.slice none 0 0) := ⟨Tryd.underlying47, by kernel_rfl⟩
theorem fn74 : FnOk Tryd.prog 74 := fQ Tryd.func74
theorem fn103 : FnOk Tryd.prog 103 := fQ Tryd.func103
theorem fn105 : FnOk Tryd.prog 105 := fQ Tryd.func105
@[simp] theorem stmC_len (s : Sha.Stm) : (stmC s).length = s.st.length + (s.bl.length + 1) := by simp [stmC]
attribute [local irreducible] Sha.adds Sha.fin Sha.sum Sha.comp Sha.sch Sha.rounds Sha.outB Sha.ofS Sha.ofD Wi.int Wi.bytes
theorem of_ct (tag : Int) (v : Value) (ps : List (List UInt8)) (hp : ∀ p ∈ ps, p.length < 1048576) (hl : ps.length < 1048576) (w : World) (hb : Sl Go.Fw.encS (ph w) v ps) {fz1 : Nat × Nat} {bt1 : TypeId} (hg1 : w.heap[2]? = some (.cells (Sha.kc.map vw).toArray bt1 fz1)) : Ct Tryd.prog 78 [vi tag, v] w (fun r _ _ => r = .agg ((Sha.ofD tag ps).map vb).toArray) := by
 refine fn_enter Tryd.func78 rfl Tryd.ntmps78 lB fun a hF hS => ?_
 have hA := Sha.adds_len Sha.begin_ Sha.begin_8 Sha.begin_64 [ofb tag]
 obtain ⟨hA1, hA2⟩ := hA
 refine reglS fun K1 hK1 => ?_
 refine eQ hF hS rfl (ef_allocA ty29) ?_
 rintro _ _ _ a w ⟨b1, rfl, rfl, rfl⟩ hF hS
 rw [show List.replicate 16 (Value.int .u8 0) = (List.replicate 16 (0 : UInt8)).map vb from by rw [List.map_replicate] <;> rfl] at hS
 refine wpList_nil (hK1 _ _ ?_)
 refine k0 ?_; intro K2 hK2
 revert hS; revert hF; apply regJ (J := J2 (α0 := Value) (α1 := Nat) 32 _ _ _ _ _) #[false, false, false, false, false, false, false, false] 8 mixed rfl rfl
 ·intro w hF hS
  refine tQ 1 rfl hF (hS.keep sQ zQ) (q_move rfl) fun a hF => ?_
  refine tQ 2 rfl hF (hS.keep sQ zQ) (q_cv_ib ty3 ty5 rfl) fun a hF => ?_
  refine goW_fork [0, 3, 6] kQ rfl ⟨?_, ?_, ?_, trivial⟩
  ·refine stepW_ef _ rfl rfl hF hS rfl (ef_qt (q_call fn103 rfl (fun w hS => begin_ct w ) hI)) ?_
   rintro _ _ _ a w ⟨rfl, rfl, rfl⟩ hF hS
   refine ⟨⟨.inr hS.k0, .inr hS.k0, trivial⟩, ?_⟩
   refine goW_fork [3, 6] kQ rfl ⟨?_, ?_, trivial⟩
   ·refine stepW_ef _ rfl rfl hF hS rfl (ef_bsliceA ty39 ty5 rfl rfl oQ deQ rfl rfl) ?_
    rintro v_1_3 _ _ a w ⟨rfl, rfl⟩ hF hS
    refine ⟨⟨iQ, iQ, trivial⟩, ?_⟩
    refine tQ 4 rfl hF (hS.keep sQ (zQ.k)) (q_b2s_row (xs := [_]) ty39 ty9 ty5 0 rfl rfl) fun a hF => ?_
    refine goW_fork [5, 6] kQ rfl ⟨?_, ?_, trivial⟩
    ·refine stepW_ef _ rfl rfl hF hS rfl (ef_qt (q_call fn104 rfl (fun w hS => add_ct _ _ (by first | assumption | rfl | (simp only [*]; done)) (by first | assumption | rfl | (simp only [*]; done)) (by first | assumption | omega | (simp; done) | (simp; omega) | (simp only [*]; omega)) w (hS.ext _ _ hg1)) hI)) ?_
     rintro _ _ _ a w ⟨rfl, rfl, rfl⟩ hF hS
     refine ⟨⟨iQ, iQ, iQ, trivial⟩, ?_⟩
     refine gQ 6 rfl rfl hF hS rfl (ef_allocA ty155) ?_
     rintro _ _ _ a w ⟨b_1_6, rfl, rfl, rfl⟩ hF hS
     refine ⟨⟨iQ, iQ, iQ, trivial⟩, ?_⟩
     refine gQ 7 rfl rfl hF hS rfl (ef_storeW ty155 0 rfl rfl rfl rfl bQ oQ bQ) ?_
     rintro _ _ _ a w ⟨rfl, rfl, rfl⟩ hF hS
     (try dsimp only [segs] at hS)
     replace hS := nl0_3 hS
     refine ⟨⟨iQ, iQ, iQ, trivial⟩, ?_⟩
     exact goW_done kQ (j2_mk v_1_3 b_1_6 (trivial) (hF.sub (L' := [(1, _), (4, _), (5, _)]) ⟨rfl, rfl, rfl, trivial⟩) hS)
    ·refine stepW_ef _ rfl rfl hF hS rfl (ef_allocA ty155) ?_
     rintro _ _ _ a w ⟨b_1_6, rfl, rfl, rfl⟩ hF hS
     refine ⟨⟨.inr (hS.k1 (zQ.k.n)), iQ, iQ, trivial⟩, ?_⟩
     refine gQ 5 rfl rfl hF hS rfl (ef_qt (q_call fn104 rfl (fun w hS => add_ct _ _ (by first | assumption | rfl | (simp only [*]; done)) (by first | assumption | rfl | (simp only [*]; done)) (by first | assumption | omega | (simp; done) | (simp; omega) | (simp only [*]; omega)) w (hS.ext _ _ hg1)) hI)) ?_
     rintro _ _ _ a w ⟨rfl, rfl, rfl⟩ hF hS
     refine ⟨⟨iQ, iQ, iQ, trivial⟩, ?_⟩
     refine gQ 7 rfl rfl hF hS rfl (ef_storeW ty155 0 rfl rfl rfl rfl bQ oQ bQ) ?_
     rintro _ _ _ a w ⟨rfl, rfl, rfl⟩ hF hS
     (try dsimp only [segs] at hS)
     replace hS := nl0_3 hS
     refine ⟨⟨iQ, iQ, iQ, trivial⟩, ?_⟩
     exact goW_done kQ (j2_mk v_1_3 b_1_6 (trivial) (hF.sub (L' := [(1, _), (4, _), (5, _)]) ⟨rfl, rfl, rfl, trivial⟩) hS)
   ·refine stepW_ef _ rfl rfl hF hS rfl (ef_allocA ty155) ?_
    rintro _ _ _ a w ⟨b_1_6, rfl, rfl, rfl⟩ hF hS
    refine ⟨⟨.inr hS.k0, .inr hS.k0, trivial⟩, ?_⟩
    refine gQ 3 rfl rfl hF hS rfl (ef_bsliceA ty39 ty5 rfl rfl oQ deQ rfl rfl) ?_
    rintro v_1_3 _ _ a w ⟨rfl, rfl⟩ hF hS
    refine ⟨⟨iQ, iQ, trivial⟩, ?_⟩
    refine tQ 4 rfl hF (hS.keep sQ (zQ.k)) (q_b2s_row (xs := [_]) ty39 ty9 ty5 0 rfl rfl) fun a hF => ?_
    refine gQ 5 rfl rfl hF hS rfl (ef_qt (q_call fn104 rfl (fun w hS => add_ct _ _ (by first | assumption | rfl | (simp only [*]; done)) (by first | assumption | rfl | (simp only [*]; done)) (by first | assumption | omega | (simp; done) | (simp; omega) | (simp only [*]; omega)) w (hS.ext _ _ hg1)) hI)) ?_
    rintro _ _ _ a w ⟨rfl, rfl, rfl⟩ hF hS
    refine ⟨⟨iQ, iQ, iQ, trivial⟩, ?_⟩
    refine gQ 7 rfl rfl hF hS rfl (ef_storeW ty155 1 rfl rfl rfl rfl bQ oQ bQ) ?_
    rintro _ _ _ a w ⟨rfl, rfl, rfl⟩ hF hS
    (try dsimp only [segs] at hS)
    replace hS := nl0_3 hS
    refine ⟨⟨iQ, iQ, iQ, trivial⟩, ?_⟩
    exact goW_done kQ (j2_mk v_1_3 b_1_6 (trivial) (hF.sub (L' := [(1, _), (4, _), (5, _)]) ⟨rfl, rfl, rfl, trivial⟩) (hS.perm (.swap _ _ _)))
  ·refine stepW_ef _ rfl rfl hF hS rfl (ef_bsliceA ty39 ty5 rfl rfl oQ deQ rfl rfl) ?_
   rintro v_1_3 _ _ a w ⟨rfl, rfl⟩ hF hS
   refine ⟨⟨iQ, iQ, trivial⟩, ?_⟩
   refine tQ 4 rfl hF (hS.keep sQ (zQ.k)) (q_b2s_row (xs := [_]) ty39 ty9 ty5 0 rfl rfl) fun a hF => ?_
   refine goW_fork [0, 6] kQ rfl ⟨?_, ?_, trivial⟩
   ·refine stepW_ef _ rfl rfl hF hS rfl (ef_qt (q_call fn103 rfl (fun w hS => begin_ct w ) hI)) ?_
    rintro _ _ _ a w ⟨rfl, rfl, rfl⟩ hF hS
    refine ⟨⟨.inr (hS.k1 (zQ.k)), iQ, iQ, trivial⟩, ?_⟩
    refine goW_fork [5, 6] kQ rfl ⟨?_, ?_, trivial⟩
    ·refine stepW_ef _ rfl rfl hF hS rfl (ef_qt (q_call fn104 rfl (fun w hS => add_ct _ _ (by first | assumption | rfl | (simp only [*]; done)) (by first | assumption | rfl | (simp only [*]; done)) (by first | assumption | omega | (simp; done) | (simp; omega) | (simp only [*]; omega)) w (hS.ext _ _ hg1)) hI)) ?_
     rintro _ _ _ a w ⟨rfl, rfl, rfl⟩ hF hS
     refine ⟨⟨iQ, iQ, iQ, trivial⟩, ?_⟩
     refine gQ 6 rfl rfl hF hS rfl (ef_allocA ty155) ?_
     rintro _ _ _ a w ⟨b_1_6, rfl, rfl, rfl⟩ hF hS
     refine ⟨⟨iQ, iQ, iQ, trivial⟩, ?_⟩
     refine gQ 7 rfl rfl hF hS rfl (ef_storeW ty155 0 rfl rfl rfl rfl bQ oQ bQ) ?_
     rintro _ _ _ a w ⟨rfl, rfl, rfl⟩ hF hS
     (try dsimp only [segs] at hS)
     replace hS := nl0_3 hS
     refine ⟨⟨iQ, iQ, iQ, trivial⟩, ?_⟩
     exact goW_done kQ (j2_mk v_1_3 b_1_6 (trivial) (hF.sub (L' := [(1, _), (4, _), (5, _)]) ⟨rfl, rfl, rfl, trivial⟩) hS)
    ·refine stepW_ef _ rfl rfl hF hS rfl (ef_allocA ty155) ?_
     rintro _ _ _ a w ⟨b_1_6, rfl, rfl, rfl⟩ hF hS
     refine ⟨⟨.inr (hS.k1 (zQ.k.n)), iQ, iQ, trivial⟩, ?_⟩
     refine gQ 5 rfl rfl hF hS rfl (ef_qt (q_call fn104 rfl (fun w hS => add_ct _ _ (by first | assumption | rfl | (simp only [*]; done)) (by first | assumption | rfl | (simp only [*]; done)) (by first | assumption | omega | (simp; done) | (simp; omega) | (simp only [*]; omega)) w (hS.ext _ _ hg1)) hI)) ?_
     rintro _ _ _ a w ⟨rfl, rfl, rfl⟩ hF hS
     refine ⟨⟨iQ, iQ, iQ, trivial⟩, ?_⟩
     refine gQ 7 rfl rfl hF hS rfl (ef_storeW ty155 0 rfl rfl rfl rfl bQ oQ bQ) ?_
     rintro _ _ _ a w ⟨rfl, rfl, rfl⟩ hF hS
     (try dsimp only [segs] at hS)
     replace hS := nl0_3 hS
     refine ⟨⟨iQ, iQ, iQ, trivial⟩, ?_⟩
     exact goW_done kQ (j2_mk v_1_3 b_1_6 (trivial) (hF.sub (L' := [(1, _), (4, _), (5, _)]) ⟨rfl, rfl, rfl, trivial⟩) hS)
   ·refine stepW_ef _ rfl rfl hF hS rfl (ef_allocA ty155) ?_
    rintro _ _ _ a w ⟨b_1_6, rfl, rfl, rfl⟩ hF hS
    refine ⟨⟨.inr (hS.k1 (zQ.k.n)), iQ, iQ, trivial⟩, ?_⟩
    refine gQ 0 rfl rfl hF hS rfl (ef_qt (q_call fn103 rfl (fun w hS => begin_ct w ) hI)) ?_
    rintro _ _ _ a w ⟨rfl, rfl, rfl⟩ hF hS
    refine ⟨⟨.inr (hS.k1 (zQ.k.n)), iQ, iQ, trivial⟩, ?_⟩
    refine gQ 5 rfl rfl hF hS rfl (ef_qt (q_call fn104 rfl (fun w hS => add_ct _ _ (by first | assumption | rfl | (simp only [*]; done)) (by first | assumption | rfl | (simp only [*]; done)) (by first | assumption | omega | (simp; done) | (simp; omega) | (simp only [*]; omega)) w (hS.ext _ _ hg1)) hI)) ?_
    rintro _ _ _ a w ⟨rfl, rfl, rfl⟩ hF hS
    refine ⟨⟨iQ, iQ, iQ, trivial⟩, ?_⟩
    refine gQ 7 rfl rfl hF hS rfl (ef_storeW ty155 0 rfl rfl rfl rfl bQ oQ bQ) ?_
    rintro _ _ _ a w ⟨rfl, rfl, rfl⟩ hF hS
    (try dsimp only [segs] at hS)
    replace hS := nl0_3 hS
    refine ⟨⟨iQ, iQ, iQ, trivial⟩, ?_⟩
    exact goW_done kQ (j2_mk v_1_3 b_1_6 (trivial) (hF.sub (L' := [(1, _), (4, _), (5, _)]) ⟨rfl, rfl, rfl, trivial⟩) hS)
  ·refine stepW_ef _ rfl rfl hF hS rfl (ef_allocA ty155) ?_
   rintro _ _ _ a w ⟨b_1_6, rfl, rfl, rfl⟩ hF hS
   refine ⟨⟨.inr hS.k0, .inr hS.k0, trivial⟩, ?_⟩
   refine goW_fork [0, 3] kQ rfl ⟨?_, ?_, trivial⟩
   ·refine stepW_ef _ rfl rfl hF hS rfl (ef_qt (q_call fn103 rfl (fun w hS => begin_ct w ) hI)) ?_
    rintro _ _ _ a w ⟨rfl, rfl, rfl⟩ hF hS
    refine ⟨⟨.inr hS.k0, .inr hS.k0, trivial⟩, ?_⟩
    refine gQ 3 rfl rfl hF hS rfl (ef_bsliceA ty39 ty5 rfl rfl oQ deQ rfl rfl) ?_
    rintro v_1_3 _ _ a w ⟨rfl, rfl⟩ hF hS
    refine ⟨⟨iQ, iQ, trivial⟩, ?_⟩
    refine tQ 4 rfl hF (hS.keep sQ (zQ.k)) (q_b2s_row (xs := [_]) ty39 ty9 ty5 0 rfl rfl) fun a hF => ?_
    refine gQ 5 rfl rfl hF hS rfl (ef_qt (q_call fn104 rfl (fun w hS => add_ct _ _ (by first | assumption | rfl | (simp only [*]; done)) (by first | assumption | rfl | (simp only [*]; done)) (by first | assumption | omega | (simp; done) | (simp; omega) | (simp only [*]; omega)) w (hS.ext _ _ hg1)) hI)) ?_
    rintro _ _ _ a w ⟨rfl, rfl, rfl⟩ hF hS
    refine ⟨⟨iQ, iQ, iQ, trivial⟩, ?_⟩
    refine gQ 7 rfl rfl hF hS rfl (ef_storeW ty155 1 rfl rfl rfl rfl bQ oQ bQ) ?_
    rintro _ _ _ a w ⟨rfl, rfl, rfl⟩ hF hS
    (try dsimp only [segs] at hS)
    replace hS := nl0_3 hS
    refine ⟨⟨iQ, iQ, iQ, trivial⟩, ?_⟩
    exact goW_done kQ (j2_mk v_1_3 b_1_6 (trivial) (hF.sub (L' := [(1, _), (4, _), (5, _)]) ⟨rfl, rfl, rfl, trivial⟩) (hS.perm (.swap _ _ _)))
   ·refine stepW_ef _ rfl rfl hF hS rfl (ef_bsliceA ty39 ty5 rfl rfl oQ deQ rfl rfl) ?_
    rintro v_1_3 _ _ a w ⟨rfl, rfl⟩ hF hS
    refine ⟨⟨iQ, iQ, trivial⟩, ?_⟩
    refine tQ 4 rfl hF (hS.keep sQ (zQ.k)) (q_b2s_row (xs := [_]) ty39 ty9 ty5 0 rfl rfl) fun a hF => ?_
    refine gQ 0 rfl rfl hF hS rfl (ef_qt (q_call fn103 rfl (fun w hS => begin_ct w ) hI)) ?_
    rintro _ _ _ a w ⟨rfl, rfl, rfl⟩ hF hS
    refine ⟨⟨.inr (hS.k1 (zQ.k)), iQ, iQ, trivial⟩, ?_⟩
    refine gQ 5 rfl rfl hF hS rfl (ef_qt (q_call fn104 rfl (fun w hS => add_ct _ _ (by first | assumption | rfl | (simp only [*]; done)) (by first | assumption | rfl | (simp only [*]; done)) (by first | assumption | omega | (simp; done) | (simp; omega) | (simp only [*]; omega)) w (hS.ext _ _ hg1)) hI)) ?_
    rintro _ _ _ a w ⟨rfl, rfl, rfl⟩ hF hS
    refine ⟨⟨iQ, iQ, iQ, trivial⟩, ?_⟩
    refine gQ 7 rfl rfl hF hS rfl (ef_storeW ty155 1 rfl rfl rfl rfl bQ oQ bQ) ?_
    rintro _ _ _ a w ⟨rfl, rfl, rfl⟩ hF hS
    (try dsimp only [segs] at hS)
    replace hS := nl0_3 hS
    refine ⟨⟨iQ, iQ, iQ, trivial⟩, ?_⟩
    exact goW_done kQ (j2_mk v_1_3 b_1_6 (trivial) (hF.sub (L' := [(1, _), (4, _), (5, _)]) ⟨rfl, rfl, rfl, trivial⟩) (hS.perm (.swap _ _ _)))
 rintro a w ⟨v_1_3, b_1_6, -, hF, hS⟩
 (try dsimp only at hF hS)
 refine hK2 _ _ ?_
 refine k0 ?_; intro K3 hK3
 refine regS hF hS (mQ rfl <| q0 (q_len_sl ty47 hb rfl) <| mQ rfl <| sq_end) fun a w hF hS => ?_
 refine wp_block ?_
 obtain ⟨hs0, hhs0, hS⟩ := hS.oh
 refine wp_loopx (γ := Int) (0) (fun (i : Int) => [(17, vi i)]) [(4, _), (5, _), (15, _), (16, _)] (fun (i : Int) => (hs0.set 0 (.blk b_1_6 155 (stmC (Sha.ofS tag (ps.take i.toNat)))))) (fun (i : Int) => 0 ≤ i ∧ i ≤ ps.length) (fun (i : Int) => (ps.length - i).toNat) (hF.sub ⟨rfl, rfl, rfl, rfl, rfl, trivial⟩) (by subst hhs0; rw [← Sha.ofS_0] at hS; exact hS) (by exact ⟨Int.le_refl _, by omega⟩) ?_
 rintro i a w hfact hF hS
 subst hhs0; (try dsimp only at hfact hF hS)
 obtain ⟨hi0, hi1⟩ := hfact
 replace hS := nl0_3 hS
 obtain ⟨hB1, hB2⟩ := Sha.ofS_ok tag (ps.take i.toNat)
 refine regS hF hS (q0 (q_lti rfl rfl) <| sq_end) fun a w hF hS => ?_
 refine k0 ?_; intro K6 hK6
 refine wp_ifd hF rfl (fun hc1 => ?_) (fun hc1 => ?_)
 ·refine wp_skip ?_
  refine hK6 _ _ ?_
  refine k0 ?_; intro K7 hK7
  refine wp_block ?_
  refine k0 ?_; intro K8 hK8
  refine reg hF hS (q0 (q_idx_sl ty47 ty9 hb rfl rfl omQ) <| q0 (q_ld_S ty9 hb zin0 rfl rfl omQ) <| aQ rfl <| sq_end) fun a w hF hS => ?_
  have hpi := hp _ (Sha.getD_mem ps i.toNat omQ)
  have hbl := Wi.bytes_len (ps.getD i.toNat [])
  obtain ⟨hD1, hD2⟩ := Sha.adds_len _ hB1 hB2 (Wi.bytes (ps.getD i.toNat []))
  have hlen : (stmC (Sha.adds (Sha.ofS tag (ps.take i.toNat)) (Wi.bytes (ps.getD i.toNat [])))).length = 73 := by rw [stmC_len]; omega
  refine hK8 _ _ ?_
  revert hS; revert hF; apply regJ (J := J1 (α0 := Value) 32 _ _ _ _ _) #[false, false, false, false, false, false] 6 mixed rfl rfl
  ·intro w hF hS
   refine tQ 0 rfl hF (hS.keep sQ (zQ.k)) (q_ld_blkW ty155 0 rfl rfl bQ rfl) fun a hF => ?_
   refine tQ 1 rfl hF (hS.keep sQ zQ) (q_move rfl) fun a hF => ?_
   refine gQ 2 rfl rfl hF hS rfl (ef_call fn74 rfl (fun w hS => wbytes_ct _ (by first | assumption | omega) w )) ?_
   rintro v_5_2 _ _ a w ⟨_, _, rfl, rfl, rfl, rfl⟩ hF hS
   refine ⟨⟨iQ, .inr (hS.k1 (zQ.k.n)), trivial⟩, ?_⟩
   refine tQ 3 rfl hF (hS.keep sQ (zQ.k)) (q_b2s_row ty39 ty9 ty5 0 rfl rfl) fun a hF => ?_
   refine gQ 4 rfl rfl hF hS rfl (ef_qt (q_call fn104 rfl (fun w hS => add_ct _ _ (by first | assumption | rfl | (simp only [*]; done)) (by first | assumption | rfl | (simp only [*]; done)) (by first | assumption | omega | (simp; done) | (simp; omega) | (simp only [*]; omega)) w (hS.ext _ _ hg1)) hI)) ?_
   rintro _ _ _ a w ⟨rfl, rfl, rfl⟩ hF hS
   refine ⟨⟨iQ, iQ, iQ, trivial⟩, ?_⟩
   refine gQ 5 rfl rfl hF hS rfl (ef_storeW ty155 1 rfl rfl rfl rfl bQ oQ bQ) ?_
   rintro _ _ _ a w ⟨rfl, rfl, rfl⟩ hF hS
   (try dsimp only [segs] at hS)
   replace hS := nl0_4 hS
   refine ⟨⟨iQ, iQ, iQ, trivial⟩, ?_⟩
   exact goW_done kQ (j1_mk v_5_2 (trivial) (hF.sub (L' := [(4, _), (5, _), (15, _), (16, _), (17, _)]) ⟨rfl, rfl, rfl, rfl, rfl, trivial⟩) hS)
  rintro a w ⟨v_5_2, -, hF, hS⟩
  (try dsimp only at hF hS)
  refine hK7 _ _ ?_
  refine reg hF hS (pQ rfl rfl <| mQ rfl <| sq_end) fun a w hF hS => ?_
  replace hS := hS.keep zQ (sN1)
  refine ⟨(i + 1), ?_, ?_, hF.sub ⟨rfl, rfl, rfl, rfl, rfl, trivial⟩, ?_⟩
  ·(try dsimp only); omega
  ·(try dsimp only); omega
  ·rw [Sha.ofS_step' _ _ _ omQ, show i.toNat + 1 = (i + 1).toNat by omega] at hS
   exact hS
 ·obtain rfl : i = ps.length := by omega
  rw [Int.toNat_natCast, List.take_length] at hS
  obtain ⟨hC1, hC2⟩ := Sha.ofS_ok tag ps
  have hC3 := Sha.ofS_n tag ps hp hl
  have hC4 := Sha.fin_len (Sha.ofS tag ps)
  refine wp_exit ?_
  refine hK3 _ _ ?_
  refine reglS fun K9 hK9 => ?_
  refine lQ hF hS (q0 (q_ld_blkW ty155 0 rfl rfl bQ rfl) <| q0 (q_call fn105 rfl (fun w hS => ssum_ct _ (by first | assumption | (simp [*]; done)) (by first | assumption | (simp [*]; done)) (by first | assumption | omega) w (hS.ext _ _ hg1)) hI) <| sq_end) fun a w hF hS => ?_
  refine eQ hF hS rfl (ef_allocA ty141) ?_
  rintro _ _ _ a w ⟨b2, rfl, rfl, rfl⟩ hF hS
  rw [show List.replicate 32 (Value.int .u8 0) = (List.replicate 32 (0 : UInt8)).map vb from by rw [List.map_replicate] <;> rfl] at hS
  refine eQ hF hS rfl (ef_storeW ty141 0 rfl rfl rfl rfl bQ oQ bQ) ?_
  rintro _ _ _ a w ⟨rfl, rfl, rfl⟩ hF hS
  replace hS := nl0_4 hS
  refine wpList_nil (hK9 _ _ ?_)
  refine reglS fun K10 hK10 => ?_
  refine lQ hF hS (q0 (q_sla_hi ty141 ty5 rfl rfl omQ) <| q0 (q_s2ap ty29 rfl omQ) <| q0 (q_ld_blkAM ty29 0 rfl rfl bQ rfl) <| sq_end) fun a w hF hS => ?_
  refine eQ hF hS rfl (ef_storeW ty29 3 rfl rfl rfl rfl bQ oQ bQ) ?_
  rintro _ _ _ a w ⟨rfl, rfl, rfl⟩ hF hS
  replace hS := nl0_4 hS
  refine wpList_nil (hK10 _ _ ?_)
  refine wp_ret ?_
  exact fn_ret (rs := [.cell 4 29]) rfl hF hS (vs := [_]) ⟨⟨_, _, _, _, _, _, _, rfl, List.mem_of_getElem? (i := 3) rfl, ty29, .inl ⟨rfl, bQ, rfl⟩⟩, trivial⟩ zQ zQ (by unfold Sha.ofD; rfl)
end
section
theorem fn110 : FnOk Tryd.prog 110 := fQ Tryd.func110
theorem rrotr_ct (x : UInt32) (n : Int) (hn : 0 < n ∧ n < 32) (w : World) : Ct Tryd.prog 110 [vw x, vi n] w (fun r _ _ => r = vw (Sha.rotr x (UInt32.ofNat n.toNat))) := by
 refine fn_enter Tryd.func110 rfl Tryd.ntmps110 lB fun a hF hS => ?_
 refine regS hF hS (aQ rfl <| sq_end) fun a w hF hS => ?_
 refine regdS mixed kQ hF hS (mQ rfl <| mQ rfl <| q0 (q_shrw rfl rfl omQ) <| mQ rfl <| mQ rfl <| dQ rfl rfl <| q0 (q_shlw rfl rfl omQ) <| q0 (q_orw rfl rfl) <| aQ rfl <| sq_end) fun a w hF hS => ?_
 refine wp_ret ?_
 exact fn_ret (rs := [.tmp 4]) rfl hF hS (vs := [_]) ⟨rfl, trivial⟩ zQ zQ (by rw [Sha.rotr_q x n hn])
theorem rpad_ct (v : Value) (xs : List UInt8) (hx : xs.length < 1099511627776) (w : World) (hb : Sl encB (ph w) v xs) : Ct Tryd.prog 108 [v] w (fun r zs hs => ∃ z, Sl encB z r (xs ++ Sha.pad (ofq xs.length)) ∧ zs = [z] ∧ hs = []) := by
 refine fn_enter Tryd.func108 rfl Tryd.ntmps108 lB fun a hF hS => ?_
 have hz := Sha.zeros_lt xs.length
 have hbe := Sha.be8_len (8 * ofq xs.length)
 refine regS hF hS (aQ rfl <| sq_end) fun a w hF hS => ?_
 refine reglS fun K2 hK2 => ?_
 refine eQ hF hS rfl (ef_bslice0 ty39 ty5) ?_
 rintro v1 _ _ a w ⟨rfl, rfl⟩ hF hS
 replace hS := nl0_1 hS
 refine lQ hF hS (mQ rfl <| sq_end) fun a w hF hS => ?_
 refine eQ hF hS rfl (ef_append ty39 ty5 0 rfl rfl rfl (src_slV ty39 hb zin0) bQ rfl deQ) ?_
 rintro v3 _ _ a w ⟨rfl, rfl⟩ hF hS
 replace hS := nl0_1 hS
 refine lQ hF hS (aQ rfl <| sq_end) fun a w hF hS => ?_
 refine wpList_nil (hK2 _ _ ?_)
 refine reglS fun K3 hK3 => ?_
 refine lQ hF hS (mQ rfl <| sq_end) fun a w hF hS => ?_
 refine eQ hF hS rfl (ef_bsliceA ty39 ty5 rfl rfl oQ deQ rfl rfl) ?_
 rintro v4 _ _ a w ⟨rfl, rfl⟩ hF hS
 replace hS := nl0_2 hS
 refine eQ hF hS rfl (ef_append ty39 ty5 1 rfl rfl rfl (src_row ty39 (k := 0) rfl oQ) bQ rfl deQ) ?_
 rintro v6 _ _ a w ⟨rfl, rfl⟩ hF hS
 replace hS := nl0_2 hS
 refine lQ hF hS (aQ rfl <| sq_end) fun a w hF hS => ?_
 refine wpList_nil (hK3 _ _ ?_)
 refine k0 ?_; intro K4 hK4
 refine wp_block ?_
 obtain ⟨hs0, hhs0, hS⟩ := hS.oh
 refine wp_loopx (γ := Value × Nat) (v6, 0) (fun (v', j) => [(3, v')]) [(0, _)] (fun (v', j) => (hs0.set 1 (.row v' 5 1 (xs.length + (1 + j)) ((xs ++ 128 :: List.replicate j (0 : UInt8)).map vb)))) (fun (v', j) => j ≤ Sha.zerosFor xs.length) (fun (v', j) => Sha.zerosFor xs.length - j) (hF.sub ⟨rfl, rfl, trivial⟩) (by subst hhs0; simp at hS; simp; exact hS) (by exact Nat.zero_le _) ?_
 rintro ⟨v', j⟩ a w hfact hF hS
 subst hhs0; (try dsimp only at hfact hF hS)
 have hj := hfact
 replace hS := nl0_2 hS
 refine k0 ?_; intro K5 hK5
 refine regS hF hS (mQ rfl <| q0 (q_len_row ty39 1 rfl rfl) <| q0 (q_remi rfl rfl omQ) <| q0 (q_nei rfl rfl) <| sq_end) fun a w hF hS => ?_
 refine wp_ifn hF rfl (fun hc1 => ?_) (fun hc1 => ?_)
 ·have hjl : j < Sha.zerosFor xs.length := by
   have := Sha.zeros_at xs.length
   rcases Nat.lt_or_ge j (Sha.zerosFor xs.length) with h | h
   ·exact h
   ·obtain rfl : j = Sha.zerosFor xs.length := by omega
    omega
  refine wp_skip ?_
  refine hK5 _ _ ?_
  refine wp_block ?_
  refine regl ?_
  refine lQ hF hS (mQ rfl <| sq_end) fun a w hF hS => ?_
  refine eQ hF hS rfl (ef_bsliceA ty39 ty5 rfl rfl oQ deQ rfl rfl) ?_
  rintro v7 _ _ a w ⟨rfl, rfl⟩ hF hS
  replace hS := nl0_3 hS
  refine eQ hF hS rfl (ef_append ty39 ty5 2 rfl rfl rfl (src_row ty39 (k := 0) rfl oQ) bQ rfl deQ) ?_
  rintro v9 _ _ a w ⟨rfl, rfl⟩ hF hS
  replace hS := nl0_3 hS
  refine lQ hF hS (aQ rfl <| sq_end) fun a w hF hS => ?_
  refine wpList_nil ?_
  replace hS := hS.keep zQ (sN1)
  refine ⟨(v9, j + 1), ?_, ?_, hF.sub ⟨rfl, rfl, trivial⟩, ?_⟩
  ·(try dsimp only); omega
  ·(try dsimp only); omega
  ·have e : (xs ++ 128 :: List.replicate j (0 : UInt8)).map vb ++ [Value.int .u8 0] = (xs ++ 128 :: List.replicate (j + 1) (0 : UInt8)).map vb := by rw [List.replicate_succ']; simp
   rw [e] at hS
   exact hS
 ·have hjz := Sha.zeros_un xs.length j hj omQ
  subst hjz
  refine wp_exit ?_
  refine hK4 _ _ ?_
  refine regS hF hS (mQ rfl <| q0 (q_len_sl ty39 hb rfl) <| q0 (q_cv_iq ty3 ty116 rfl) <| q0 (q_mulq (p := 8) rfl rfl) <| aQ rfl <| sq_end) fun a w hF hS => ?_
  refine k0 ?_; intro K8 hK8
  refine regS hF hS (aQ rfl <| sq_end) fun a w hF hS => ?_
  refine wp_block ?_
  obtain ⟨hs0, hhs0, hS⟩ := hS.oh
  refine wp_loopx (γ := Value × Int) (v', 0) (fun (v', i) => [(3, v'), (5, vi i)]) [(4, _)] (fun (v', i) => (hs0.set 1 (.row v' 5 1 (xs.length + (1 + Sha.zerosFor xs.length) + i.toNat) ((xs ++ 128 :: (List.replicate (Sha.zerosFor xs.length) (0 : UInt8) ++ (Sha.be8 (8 * ofq xs.length)).take i.toNat)).map vb)))) (fun (v', i) => 0 ≤ i ∧ i ≤ 8) (fun (v', i) => (8 - i).toNat) (hF.sub ⟨rfl, rfl, rfl, trivial⟩) (by subst hhs0; simpa using hS) (by simp) ?_
  rintro ⟨v', i⟩ a w hfact hF hS
  subst hhs0; (try dsimp only at hfact hF hS)
  obtain ⟨hi0, hi1⟩ := hfact
  replace hS := nl0_2 hS
  refine k0 ?_; intro K10 hK10
  refine regS hF hS (mQ rfl <| q0 (q_lti rfl rfl) <| sq_end) fun a w hF hS => ?_
  refine wp_ifd hF rfl (fun hc2 => ?_) (fun hc2 => ?_)
  ·refine wp_skip ?_
   refine hK10 _ _ ?_
   refine k0 ?_; intro K12 hK12
   refine wp_block ?_
   refine regl ?_
   refine lQ hF hS (mQ rfl <| mQ rfl <| mQ rfl <| q0 (q_muli rfl rfl omQ) <| dQ rfl rfl <| q0 (q_shrq rfl rfl omQ) <| q0 (q_cv_qb ty116 ty5 rfl) <| sq_end) fun a w hF hS => ?_
   refine eQ hF hS rfl (ef_bsliceA ty39 ty5 rfl rfl oQ deQ rfl rfl) ?_
   rintro v10 _ _ a w ⟨rfl, rfl⟩ hF hS
   replace hS := nl0_3 hS
   refine eQ hF hS rfl (ef_append ty39 ty5 2 rfl rfl rfl (src_row ty39 (k := 0) rfl oQ) bQ rfl deQ) ?_
   rintro v12 _ _ a w ⟨rfl, rfl⟩ hF hS
   replace hS := nl0_3 hS
   refine lQ hF hS (aQ rfl <| sq_end) fun a w hF hS => ?_
   refine wpList_nil (hK12 _ _ ?_)
   refine reg hF hS (mQ rfl <| pQ rfl rfl <| aQ rfl <| sq_end) fun a w hF hS => ?_
   replace hS := hS.keep zQ (sN1)
   refine ⟨(v12, i + 1), ?_, ?_, hF.sub ⟨rfl, rfl, rfl, trivial⟩, ?_⟩
   ·(try dsimp only); omega
   ·(try dsimp only); omega
   ·rw [Sha.byte_q (8 * ofq xs.length) i ⟨hi0, by omega⟩] at hS
    have e : (xs ++ 128 :: (List.replicate (Sha.zerosFor xs.length) (0 : UInt8) ++ (Sha.be8 (8 * ofq xs.length)).take i.toNat)).map vb ++ [vb (UInt8.ofNat ((8 * ofq xs.length).toNat / 2 ^ (56 - 8 * i.toNat)))] = (xs ++ 128 :: (List.replicate (Sha.zerosFor xs.length) (0 : UInt8) ++ (Sha.be8 (8 * ofq xs.length)).take (i + 1).toNat)).map vb := by rw [show (i + 1).toNat = i.toNat + 1 by omega, Sha.be8_step _ _ omQ]; simp
    rw [e, show xs.length + (1 + Sha.zerosFor xs.length) + i.toNat + 1 = xs.length + (1 + Sha.zerosFor xs.length) + (i + 1).toNat by omega] at hS
    exact hS
  ·obtain rfl : i = 8 := by omega
   rw [show (8 : Int).toNat = 8 from rfl, List.take_of_length_le omQ] at hS
   have hqn : (ofq (xs.length : Int)).toNat = xs.length := by have := ofq_toNat (xs.length : Int); omega
   have hpe : 128 :: (List.replicate (Sha.zerosFor xs.length) (0 : UInt8) ++ Sha.be8 (8 * ofq xs.length)) = Sha.pad (ofq xs.length) := by unfold Sha.pad; rw [hqn]
   rw [hpe] at hS
   refine wp_exit ?_
   refine hK8 _ _ ?_
   refine regS hF hS (mQ rfl <| aQ rfl <| sq_end) fun a w hF hS => ?_
   refine wp_ret ?_
   have hpl : (xs ++ Sha.pad (ofq xs.length)).length = xs.length + (1 + Sha.zerosFor xs.length) + 8 := by rw [← hpe]; simp [Sha.be8_len]; omega
   obtain ⟨z, hz1, hS⟩ := St.freezeB (hS.perm (.swap _ _ _)) hpl.symm omQ
   exact fn_ret (rs := [.tmp 2]) rfl hF hS (vs := [_]) ⟨rfl, trivial⟩ (zs' := [z]) (hs' := []) sQ zQ ⟨z, hz1, rfl, rfl⟩
theorem rwords_ct (v : Value) (bb : List UInt8) (hl : bb.length = 64) (w : World) (hb : Sl encB (ph w) v bb) : Ct Tryd.prog 109 [v] w (fun r _ _ => r = .agg ((Sha.sch bb 64).map vw).toArray) := by
 refine fn_enter Tryd.func109 rfl Tryd.ntmps109 lB fun a hF hS => ?_
 refine reglS fun K1 hK1 => ?_
 refine eQ hF hS rfl (ef_allocA ty162) ?_
 rintro _ _ _ a w ⟨b1, rfl, rfl, rfl⟩ hF hS
 rw [show List.replicate 64 (Value.int .u32 0) = (List.replicate 64 (0 : UInt32)).map vw from by rw [List.map_replicate] <;> rfl] at hS
 refine wpList_nil (hK1 _ _ ?_)
 refine reglS fun K2 hK2 => ?_
 refine eQ hF hS rfl (ef_allocA ty162) ?_
 rintro _ _ _ a w ⟨b2, rfl, rfl, rfl⟩ hF hS
 rw [show List.replicate 64 (Value.int .u32 0) = (List.replicate 64 (0 : UInt32)).map vw from by rw [List.map_replicate] <;> rfl] at hS
 refine wpList_nil (hK2 _ _ ?_)
 refine k0 ?_; intro K3 hK3
 refine regS hF hS (aQ rfl <| sq_end) fun a w hF hS => ?_
 refine wp_block ?_
 obtain ⟨hs0, hhs0, hS⟩ := hS.oh
 refine wp_loopx (γ := Int) (0) (fun (t : Int) => [(4, vi t)]) [(0, _), (2, _), (3, _)] (fun (t : Int) => (hs0.set 0 (.blk b2 162 ((Sha.schW bb t.toNat).map vw)))) (fun (t : Int) => 0 ≤ t ∧ t ≤ 16) (fun (t : Int) => (16 - t).toNat) (hF.sub ⟨rfl, rfl, rfl, rfl, trivial⟩) (by subst hhs0; exact hS) (by simp) ?_
 rintro t a w hfact hF hS
 subst hhs0; (try dsimp only at hfact hF hS)
 obtain ⟨ht0, ht1⟩ := hfact
 replace hS := nl0_2 hS
 have hwl := Sha.schW_len bb t.toNat omQ
 refine k0 ?_; intro K5 hK5
 refine regS hF hS (mQ rfl <| q0 (q_lti rfl rfl) <| sq_end) fun a w hF hS => ?_
 refine wp_ifd hF rfl (fun hc1 => ?_) (fun hc1 => ?_)
 ·refine wp_skip ?_
  refine hK5 _ _ ?_
  refine k0 ?_; intro K7 hK7
  refine wp_block ?_
  refine regt 35 mixed kQ hF hS (mQ rfl <| mQ rfl <| mQ rfl <| q0 (q_muli rfl rfl omQ) <| q0 (q_idx_sl ty39 ty5 hb rfl rfl omQ) <| q0 (q_ld_B ty5 hb zin0 rfl rfl omQ) <| q0 (q_cv_bw ty5 ty151 rfl) <| q0 (q_shlw rfl rfl omQ) <| mQ rfl <| mQ rfl <| q0 (q_muli rfl rfl omQ) <| pQ rfl rfl <| q0 (q_idx_sl ty39 ty5 hb rfl rfl omQ) <| q0 (q_ld_B ty5 hb zin0 rfl rfl omQ) <| q0 (q_cv_bw ty5 ty151 rfl) <| q0 (q_shlw rfl rfl omQ) <| q0 (q_orw rfl rfl) <| mQ rfl <| mQ rfl <| q0 (q_muli rfl rfl omQ) <| pQ rfl rfl <| q0 (q_idx_sl ty39 ty5 hb rfl rfl omQ) <| q0 (q_ld_B ty5 hb zin0 rfl rfl omQ) <| q0 (q_cv_bw ty5 ty151 rfl) <| q0 (q_shlw rfl rfl omQ) <| q0 (q_orw rfl rfl) <| mQ rfl <| mQ rfl <| q0 (q_muli rfl rfl omQ) <| pQ rfl rfl <| q0 (q_idx_sl ty39 ty5 hb rfl rfl omQ) <| q0 (q_ld_B ty5 hb zin0 rfl rfl omQ) <| q0 (q_cv_bw ty5 ty151 rfl) <| q0 (q_orw rfl rfl) <| q0 (q_idx_arr0 ty162 ty151 rfl rfl omQ) <| sq_end) fun a w hF hS => ?_
  refine eQ hF hS rfl (ef_st_blkM ty151 0 rfl rfl rfl bQ rfl) ?_
  rintro _ _ _ a w ⟨rfl, rfl, rfl⟩ hF hS
  replace hS := nl0_2 hS
  refine wpList_nil (hK7 _ _ ?_)
  refine reg hF hS (mQ rfl <| pQ rfl rfl <| aQ rfl <| sq_end) fun a w hF hS => ?_
  refine ⟨(t + 1), ?_, ?_, hF.sub ⟨rfl, rfl, rfl, rfl, trivial⟩, ?_⟩
  ·(try dsimp only); omega
  ·(try dsimp only); omega
  ·rw [Sha.word_step bb t omQ omQ] at hS
   exact hS
 ·obtain rfl : t = 16 := by omega
  clear hwl
  refine wp_exit ?_
  refine hK3 _ _ ?_
  refine k0 ?_; intro K8 hK8
  refine regS hF hS (aQ rfl <| sq_end) fun a w hF hS => ?_
  refine wp_block ?_
  obtain ⟨hs0, hhs0, hS⟩ := hS.oh
  refine wp_loopx (γ := Int) (16) (fun (t : Int) => [(5, vi t)]) [(2, _), (3, _)] (fun (t : Int) => (hs0.set 0 (.blk b2 162 ((Sha.schW bb t.toNat).map vw)))) (fun (t : Int) => 16 ≤ t ∧ t ≤ 64) (fun (t : Int) => (64 - t).toNat) (hF.sub ⟨rfl, rfl, rfl, trivial⟩) (by subst hhs0; exact hS) (by simp) ?_
  rintro t a w hfact hF hS
  subst hhs0; (try dsimp only at hfact hF hS)
  obtain ⟨ht0, ht1⟩ := hfact
  replace hS := nl0_2 hS
  have hwl := Sha.schW_len bb t.toNat omQ
  refine k0 ?_; intro K10 hK10
  refine regS hF hS (mQ rfl <| q0 (q_lti rfl rfl) <| sq_end) fun a w hF hS => ?_
  refine wp_ifd hF rfl (fun hc2 => ?_) (fun hc2 => ?_)
  ·refine wp_skip ?_
   refine hK10 _ _ ?_
   refine k0 ?_; intro K12 hK12
   refine wp_block ?_
   refine regdS mixed kQ hF hS (mQ rfl <| dQ rfl rfl <| q0 (q_idx_arr0 ty162 ty151 rfl rfl omQ) <| q0 (q_ld_blkM ty151 0 0 rfl rfl bQ rfl) <| q0 (q_call fn110 rfl (fun w hS => rrotr_ct _ _ omQ w ) hI) <| mQ rfl <| dQ rfl rfl <| q0 (q_idx_arr0 ty162 ty151 rfl rfl omQ) <| q0 (q_ld_blkM ty151 0 0 rfl rfl bQ rfl) <| q0 (q_call fn110 rfl (fun w hS => rrotr_ct _ _ omQ w ) hI) <| q0 (q_xorw rfl rfl) <| mQ rfl <| dQ rfl rfl <| q0 (q_idx_arr0 ty162 ty151 rfl rfl omQ) <| q0 (q_ld_blkM ty151 0 0 rfl rfl bQ rfl) <| q0 (q_shrw rfl rfl omQ) <| q0 (q_xorw rfl rfl) <| aQ rfl <| sq_end) fun a w hF hS => ?_
   refine regdS mixed kQ hF hS (mQ rfl <| dQ rfl rfl <| q0 (q_idx_arr0 ty162 ty151 rfl rfl omQ) <| q0 (q_ld_blkM ty151 0 0 rfl rfl bQ rfl) <| q0 (q_call fn110 rfl (fun w hS => rrotr_ct _ _ omQ w ) hI) <| mQ rfl <| dQ rfl rfl <| q0 (q_idx_arr0 ty162 ty151 rfl rfl omQ) <| q0 (q_ld_blkM ty151 0 0 rfl rfl bQ rfl) <| q0 (q_call fn110 rfl (fun w hS => rrotr_ct _ _ omQ w ) hI) <| q0 (q_xorw rfl rfl) <| mQ rfl <| dQ rfl rfl <| q0 (q_idx_arr0 ty162 ty151 rfl rfl omQ) <| q0 (q_ld_blkM ty151 0 0 rfl rfl bQ rfl) <| q0 (q_shrw rfl rfl omQ) <| q0 (q_xorw rfl rfl) <| aQ rfl <| sq_end) fun a w hF hS => ?_
   refine regt 15 mixed kQ hF hS (mQ rfl <| mQ rfl <| dQ rfl rfl <| q0 (q_idx_arr0 ty162 ty151 rfl rfl omQ) <| q0 (q_ld_blkM ty151 0 0 rfl rfl bQ rfl) <| mQ rfl <| q0 (q_addw rfl rfl) <| mQ rfl <| dQ rfl rfl <| q0 (q_idx_arr0 ty162 ty151 rfl rfl omQ) <| q0 (q_ld_blkM ty151 0 0 rfl rfl bQ rfl) <| q0 (q_addw rfl rfl) <| mQ rfl <| q0 (q_addw rfl rfl) <| q0 (q_idx_arr0 ty162 ty151 rfl rfl omQ) <| sq_end) fun a w hF hS => ?_
   refine eQ hF hS rfl (ef_st_blkM ty151 0 rfl rfl rfl bQ rfl) ?_
   rintro _ _ _ a w ⟨rfl, rfl, rfl⟩ hF hS
   replace hS := nl0_2 hS
   refine wpList_nil (hK12 _ _ ?_)
   refine reg hF hS (mQ rfl <| pQ rfl rfl <| aQ rfl <| sq_end) fun a w hF hS => ?_
   refine ⟨(t + 1), ?_, ?_, hF.sub ⟨rfl, rfl, rfl, trivial⟩, ?_⟩
   ·(try dsimp only); omega
   ·(try dsimp only); omega
   ·rw [Sha.ref_step bb t omQ omQ] at hS
    exact hS
  ·obtain rfl : t = 64 := by omega
   rw [show (64 : Int).toNat = 64 from rfl] at hwl
   rw [show (64 : Int).toNat = 64 from rfl, Sha.schW_64] at hS
   have hsl := Sha.sch_len bb 64
   refine wp_exit ?_
   refine hK8 _ _ ?_
   refine reglS fun K15 hK15 => ?_
   refine lQ hF hS (q0 (q_ld_blkW ty162 0 rfl rfl bQ rfl) <| sq_end) fun a w hF hS => ?_
   refine eQ hF hS rfl (ef_storeW ty162 1 rfl rfl rfl rfl bQ oQ bQ) ?_
   rintro _ _ _ a w ⟨rfl, rfl, rfl⟩ hF hS
   replace hS := nl0_2 hS
   refine wpList_nil (hK15 _ _ ?_)
   refine wp_ret ?_
   exact fn_ret (rs := [.cell 2 162]) rfl hF hS (vs := [_]) ⟨⟨_, _, _, _, _, _, _, rfl, List.mem_of_getElem? (i := 1) rfl, ty162, .inl ⟨rfl, bQ, rfl⟩⟩, trivial⟩ zQ zQ (rfl)
end
section
theorem fn108 : FnOk Tryd.prog 108 := fQ Tryd.func108
theorem fn109 : FnOk Tryd.prog 109 := fQ Tryd.func109
theorem rsum_ct (v : Value) (xs : List UInt8) (hx : xs.length < 1099511627776) (w : World) (hb : Sl encB (ph w) v xs) {fz0 : Nat × Nat} {bt0 : TypeId} (hg0 : w.heap[0]? = some (.cells (Sha.kc.map vw).toArray bt0 fz0)) : Ct Tryd.prog 94 [v] w (fun r _ _ => r = .agg ((Sha.sum xs).map vb).toArray) := by
 refine fn_enter Tryd.func94 rfl Tryd.ntmps94 lB fun a hF hS => ?_
 have hsla : ∀ b, (Sha.sch b 64).length = 64 := fun b => Sha.sch_len b 64
 have hkl : Sha.kc.length = 64 := rfl
 have hmp := Sha.mod_pad xs omQ
 have hpa := Sha.pad_at xs.length omQ
 have hzz := Sha.zeros_lt xs.length
 have hml : (xs ++ Sha.pad (ofq xs.length)).length = xs.length + (1 + Sha.zerosFor xs.length + 8) := by rw [List.length_append, hpa]
 obtain ⟨q, hq⟩ : ∃ q, (xs ++ Sha.pad (ofq xs.length)).length = 64 * q := ⟨(xs ++ Sha.pad (ofq xs.length)).length / 64, by omega⟩
 refine reglS fun K1 hK1 => ?_
 refine eQ hF hS rfl (ef_allocA ty141) ?_
 rintro _ _ _ a w ⟨b1, rfl, rfl, rfl⟩ hF hS
 rw [show List.replicate 32 (Value.int .u8 0) = (List.replicate 32 (0 : UInt8)).map vb from by rw [List.map_replicate] <;> rfl] at hS
 refine wpList_nil (hK1 _ _ ?_)
 refine reglS fun K2 hK2 => ?_
 refine lQ hF hS (q0 (q_buildA1 ty152 ty151 rfl rfl oQ rfl rfl) <| sq_end) fun a w hF hS => ?_
 refine eQ hF hS rfl (ef_allocA ty152) ?_
 rintro _ _ _ a w ⟨b2, rfl, rfl, rfl⟩ hF hS
 refine eQ hF hS rfl (ef_storeW ty152 0 rfl rfl rfl rfl bQ oQ bQ) ?_
 rintro _ _ _ a w ⟨rfl, rfl, rfl⟩ hF hS
 replace hS := nl0_2 hS
 refine wpList_nil (hK2 _ _ ?_)
 refine reglS fun K3 hK3 => ?_
 refine lQ hF hS (mQ rfl <| sq_end) fun a w hF hS => ?_
 refine eQ hF hS rfl (ef_call fn108 rfl (fun w hS => rpad_ct _ _ (by first | assumption | omega) w (Sl.mono (hS.le zin0) hb))) ?_
 rintro v3 _ _ a w ⟨_, _, rfl, rfl, ⟨z4, hz5, rfl, rfl⟩⟩ hF hS
 replace hS : St _ [_] [_, _] _ := hS
 refine lQ hF hS (aQ rfl <| sq_end) fun a w hF hS => ?_
 refine wpList_nil (hK3 _ _ ?_)
 refine k0 ?_; intro K4 hK4
 refine regS hF hS (aQ rfl <| sq_end) fun a w hF hS => ?_
 refine wp_block ?_
 obtain ⟨hs0, hhs0, hS⟩ := hS.oh
 refine wp_loopx (γ := Nat) (0) (fun (i : Nat) => [(5, vi (64 * (i : Int)))]) [(2, _), (3, _), (4, _)] (fun (i : Nat) => (hs0.set 0 (.blk b2 152 ((Sha.refS (xs ++ Sha.pad (ofq xs.length)) i).map vw)))) (fun (i : Nat) => i ≤ q) (fun (i : Nat) => q - i) (hF.sub ⟨rfl, rfl, rfl, rfl, trivial⟩) (by subst hhs0; exact hS) (by exact Nat.zero_le _) ?_
 rintro i a w hfact hF hS
 subst hhs0; (try dsimp only at hfact hF hS)
 have hiq := hfact
 replace hS : St _ [_] [_, _] _ := hS
 have hrl := Sha.refS_len (xs ++ Sha.pad (ofq xs.length)) i
 obtain ⟨a0, a1, a2, a3, a4, a5, a6, a7, hr8⟩ := Sha.list8 hrl
 rw [hr8] at hS
 refine k0 ?_; intro K6 hK6
 refine regS hF hS (mQ rfl <| mQ rfl <| q0 (q_len_sl ty39 hz5 rfl) <| q0 (q_lti rfl rfl) <| sq_end) fun a w hF hS => ?_
 refine wp_ifd hF rfl (fun hc1 => ?_) (fun hc1 => ?_)
 ·refine wp_skip ?_
  refine hK6 _ _ ?_
  refine k0 ?_; intro K8 hK8
  refine wp_block ?_
  refine reglS fun K9 hK9 => ?_
  refine lQ hF hS (mQ rfl <| mQ rfl <| mQ rfl <| pQ rfl rfl <| q0 (q_slsl_lo_hi ty39 ty5 hz5 rfl rfl rfl omQ) <| q0 (q_call fn109 rfl (fun w hS => rwords_ct _ _ (by rw [List.length_drop, List.length_take]; omega) w (Sl.mono (hS.le (.inr (by simp))) (Sl.cut hz5 omQ))) hI) <| sq_end) fun a w hF hS => ?_
  refine eQ hF hS rfl (ef_allocA ty162) ?_
  rintro _ _ _ a w ⟨b6, rfl, rfl, rfl⟩ hF hS
  rw [show List.replicate 64 (Value.int .u32 0) = (List.replicate 64 (0 : UInt32)).map vw from by rw [List.map_replicate] <;> rfl] at hS
  refine eQ hF hS rfl (ef_storeW ty162 0 rfl rfl rfl rfl bQ oQ bQ) ?_
  rintro _ _ _ a w ⟨rfl, rfl, rfl⟩ hF hS
  replace hS := nl1_3 hS
  refine wpList_nil ?_
  rw [show (64 * (i : Int)).toNat = 64 * i by omega, show (64 * (i : Int) + 64).toNat = 64 * i + 64 by omega, show List.drop (64 * i) (List.take (64 * i + 64) (xs ++ Sha.pad (ofq xs.length))) = Sha.blkAt (xs ++ Sha.pad (ofq xs.length)) i from rfl] at hS
  have hsl := Sha.sch_len (Sha.blkAt (xs ++ Sha.pad (ofq xs.length)) i) 64
  refine hK9 _ _ ?_
  refine regdS mixed kQ hF hS (q0 (q_idx_arr ty152 ty151 rfl rfl omQ) <| q0 (q_ld_blk1 ty151 1 rfl rfl rfl rfl) <| q0 (q_idx_arr ty152 ty151 rfl rfl omQ) <| q0 (q_ld_blk1 ty151 1 rfl rfl rfl rfl) <| q0 (q_idx_arr ty152 ty151 rfl rfl omQ) <| q0 (q_ld_blk1 ty151 1 rfl rfl rfl rfl) <| q0 (q_idx_arr ty152 ty151 rfl rfl omQ) <| q0 (q_ld_blk1 ty151 1 rfl rfl rfl rfl) <| q0 (q_idx_arr ty152 ty151 rfl rfl omQ) <| q0 (q_ld_blk1 ty151 1 rfl rfl rfl rfl) <| q0 (q_idx_arr ty152 ty151 rfl rfl omQ) <| q0 (q_ld_blk1 ty151 1 rfl rfl rfl rfl) <| q0 (q_idx_arr ty152 ty151 rfl rfl omQ) <| q0 (q_ld_blk1 ty151 1 rfl rfl rfl rfl) <| q0 (q_idx_arr ty152 ty151 rfl rfl omQ) <| q0 (q_ld_blk1 ty151 1 rfl rfl rfl rfl) <| aQ rfl <| aQ rfl <| aQ rfl <| aQ rfl <| aQ rfl <| aQ rfl <| aQ rfl <| aQ rfl <| sq_end) fun a w hF hS => ?_
  refine k0 ?_; intro K11 hK11
  refine regS hF hS (aQ rfl <| sq_end) fun a w hF hS => ?_
  refine wp_block ?_
  obtain ⟨hs0, hhs0, hS⟩ := hS.oh
  refine wp_loopx (γ := UInt32 × UInt32 × UInt32 × UInt32 × UInt32 × UInt32 × UInt32 × UInt32 × Int) (a0, a1, a2, a3, a4, a5, a6, a7, 0) (fun (a', b', c', d', e', f', g', k', t) => [(7, vw a'), (8, vw b'), (9, vw c'), (10, vw d'), (11, vw e'), (12, vw f'), (13, vw g'), (14, vw k'), (15, vi t)]) [(2, _), (3, _), (4, _), (5, _), (6, _)] (fun (a', b', c', d', e', f', g', k', t) => hs0) (fun (a', b', c', d', e', f', g', k', t) => 0 ≤ t ∧ t ≤ 64 ∧ Sha.rounds (Sha.sch (Sha.blkAt (xs ++ Sha.pad (ofq xs.length)) i) 64) (a0, a1, a2, a3, a4, a5, a6, a7) t.toNat = (a', b', c', d', e', f', g', k')) (fun (a', b', c', d', e', f', g', k', t) => (64 - t).toNat) (hF.sub ⟨rfl, rfl, rfl, rfl, rfl, rfl, rfl, rfl, rfl, rfl, rfl, rfl, rfl, rfl, trivial⟩) (by subst hhs0; exact hS) (by exact ⟨Int.le_refl _, by omega, rfl⟩) ?_
  rintro ⟨a', b', c', d', e', f', g', k', t⟩ a w hfact hF hS
  subst hhs0; (try dsimp only at hfact hF hS)
  obtain ⟨ht0, ht1, hR⟩ := hfact
  replace hS := nl1_3 hS
  refine k0 ?_; intro K13 hK13
  refine regS hF hS (mQ rfl <| q0 (q_lti rfl rfl) <| sq_end) fun a w hF hS => ?_
  refine wp_ifd hF rfl (fun hc2 => ?_) (fun hc2 => ?_)
  ·refine wp_skip ?_
   refine hK13 _ _ ?_
   refine k0 ?_; intro K15 hK15
   refine wp_block ?_
   refine regdS mixed kQ hF hS (mQ rfl <| mQ rfl <| q0 (q_call fn110 rfl (fun w hS => rrotr_ct _ _ omQ w ) hI) <| mQ rfl <| q0 (q_call fn110 rfl (fun w hS => rrotr_ct _ _ omQ w ) hI) <| q0 (q_xorw rfl rfl) <| mQ rfl <| q0 (q_call fn110 rfl (fun w hS => rrotr_ct _ _ omQ w ) hI) <| q0 (q_xorw rfl rfl) <| q0 (q_addw rfl rfl) <| mQ rfl <| mQ rfl <| q0 (q_andw rfl rfl) <| mQ rfl <| q0 (q_xorw (q := 4294967295) rfl rfl) <| mQ rfl <| q0 (q_andw rfl rfl) <| q0 (q_xorw rfl rfl) <| q0 (q_addw rfl rfl) <| mQ rfl <| q0 (q_idx_arr0 ty162 ty151 rfl rfl omQ) <| q0 (q_ld_old1M ty151 0 rfl hg0 bQ rfl) <| q0 (q_addw rfl rfl) <| mQ rfl <| q0 (q_idx_arr0 ty162 ty151 rfl rfl omQ) <| q0 (q_ld_blkM ty151 0 0 rfl rfl bQ rfl) <| q0 (q_addw rfl rfl) <| aQ rfl <| sq_end) fun a w hF hS => ?_
   refine regS hF hS (mQ rfl <| q0 (q_call fn110 rfl (fun w hS => rrotr_ct _ _ omQ w ) hI) <| mQ rfl <| q0 (q_call fn110 rfl (fun w hS => rrotr_ct _ _ omQ w ) hI) <| q0 (q_xorw rfl rfl) <| mQ rfl <| q0 (q_call fn110 rfl (fun w hS => rrotr_ct _ _ omQ w ) hI) <| q0 (q_xorw rfl rfl) <| mQ rfl <| mQ rfl <| q0 (q_andw rfl rfl) <| mQ rfl <| mQ rfl <| q0 (q_andw rfl rfl) <| q0 (q_xorw rfl rfl) <| mQ rfl <| mQ rfl <| q0 (q_andw rfl rfl) <| q0 (q_xorw rfl rfl) <| q0 (q_addw rfl rfl) <| aQ rfl <| sq_end) fun a w hF hS => ?_
   refine regS hF hS (mQ rfl <| aQ rfl <| sq_end) fun a w hF hS => ?_
   refine regS hF hS (mQ rfl <| aQ rfl <| sq_end) fun a w hF hS => ?_
   refine regS hF hS (mQ rfl <| aQ rfl <| sq_end) fun a w hF hS => ?_
   refine regS hF hS (mQ rfl <| mQ rfl <| q0 (q_addw rfl rfl) <| aQ rfl <| sq_end) fun a w hF hS => ?_
   refine regS hF hS (mQ rfl <| aQ rfl <| sq_end) fun a w hF hS => ?_
   refine regS hF hS (mQ rfl <| aQ rfl <| sq_end) fun a w hF hS => ?_
   refine regS hF hS (mQ rfl <| aQ rfl <| sq_end) fun a w hF hS => ?_
   refine reg hF hS (mQ rfl <| mQ rfl <| q0 (q_addw rfl rfl) <| aQ rfl <| sq_end) fun a w hF hS => ?_
   refine hK15 _ _ ?_
   refine reg hF hS (mQ rfl <| pQ rfl rfl <| aQ rfl <| sq_end) fun a w hF hS => ?_
   simp only [Sha.xor_ff] at hF
   refine ⟨(_, _, _, _, _, _, _, _, t + 1), ?_, ?_, hF.sub ⟨rfl, rfl, rfl, rfl, rfl, rfl, rfl, rfl, rfl, rfl, rfl, rfl, rfl, rfl, trivial⟩, ?_⟩
   ·(try dsimp only); omega
   ·refine ⟨by omega, by omega, ?_⟩
    rw [Sha.rounds_succ _ _ t ht0, hR]
    rfl
   ·exact hS
  ·obtain rfl : t = 64 := by omega
   rw [show (64 : Int).toNat = 64 from rfl] at hR
   refine wp_exit ?_
   refine hK11 _ _ ?_
   refine regl ?_
   refine lQ hF hS (q0 (q_idx_arr ty152 ty151 rfl rfl omQ) <| q0 (q_ld_blk1 ty151 1 rfl rfl rfl rfl) <| mQ rfl <| q0 (q_addw rfl rfl) <| q0 (q_idx_arr ty152 ty151 rfl rfl omQ) <| q0 (q_ld_blk1 ty151 1 rfl rfl rfl rfl) <| mQ rfl <| q0 (q_addw rfl rfl) <| q0 (q_idx_arr ty152 ty151 rfl rfl omQ) <| q0 (q_ld_blk1 ty151 1 rfl rfl rfl rfl) <| mQ rfl <| q0 (q_addw rfl rfl) <| q0 (q_idx_arr ty152 ty151 rfl rfl omQ) <| q0 (q_ld_blk1 ty151 1 rfl rfl rfl rfl) <| mQ rfl <| q0 (q_addw rfl rfl) <| q0 (q_idx_arr ty152 ty151 rfl rfl omQ) <| q0 (q_ld_blk1 ty151 1 rfl rfl rfl rfl) <| mQ rfl <| q0 (q_addw rfl rfl) <| q0 (q_idx_arr ty152 ty151 rfl rfl omQ) <| q0 (q_ld_blk1 ty151 1 rfl rfl rfl rfl) <| mQ rfl <| q0 (q_addw rfl rfl) <| q0 (q_idx_arr ty152 ty151 rfl rfl omQ) <| q0 (q_ld_blk1 ty151 1 rfl rfl rfl rfl) <| mQ rfl <| q0 (q_addw rfl rfl) <| q0 (q_idx_arr ty152 ty151 rfl rfl omQ) <| q0 (q_ld_blk1 ty151 1 rfl rfl rfl rfl) <| mQ rfl <| q0 (q_addw rfl rfl) <| q0 (q_buildA1 ty152 ty151 rfl rfl oQ rfl rfl) <| sq_end) fun a w hF hS => ?_
   refine eQ hF hS rfl (ef_storeW ty152 1 rfl rfl rfl rfl bQ oQ bQ) ?_
   rintro _ _ _ a w ⟨rfl, rfl, rfl⟩ hF hS
   replace hS := nl1_3 hS
   refine wpList_nil (hK8 _ _ ?_)
   refine reg hF hS (mQ rfl <| pQ rfl rfl <| aQ rfl <| sq_end) fun a w hF hS => ?_
   rw [show (64 * (i : Int) + 64) = 64 * ((i + 1 : Nat) : Int) by omega] at hF
   replace hS := hS.keep sQ (sN1)
   refine ⟨(i + 1), ?_, ?_, hF.sub ⟨rfl, rfl, rfl, rfl, trivial⟩, ?_⟩
   ·(try dsimp only); omega
   ·(try dsimp only); omega
   ·have e : Sha.refS (xs ++ Sha.pad (ofq xs.length)) (i + 1) = [a0 + a', a1 + b', a2 + c', a3 + d', a4 + e', a5 + f', a6 + g', a7 + k'] := by
     show Sha.comp (Sha.refS (xs ++ Sha.pad (ofq xs.length)) i) (Sha.blkAt (xs ++ Sha.pad (ofq xs.length)) i) = _
     rw [hr8]
     show List.zipWith (· + ·) [a0, a1, a2, a3, a4, a5, a6, a7] (Sha.l8 (Sha.rounds (Sha.sch (Sha.blkAt (xs ++ Sha.pad (ofq xs.length)) i) 64) (a0, a1, a2, a3, a4, a5, a6, a7) 64)) = _
     rw [hR]
     rfl
    rw [e]
    exact hS
 ·obtain rfl : i = q := by omega
  rw [← hr8] at hS
  have hsr := Sha.sum_ref xs omQ i hq
  refine wp_exit ?_
  refine hK4 _ _ ?_
  refine reglS fun K25 hK25 => ?_
  refine eQ hF hS rfl (ef_allocA ty141) ?_
  rintro _ _ _ a w ⟨b7, rfl, rfl, rfl⟩ hF hS
  rw [show List.replicate 32 (Value.int .u8 0) = (List.replicate 32 (0 : UInt8)).map vb from by rw [List.map_replicate] <;> rfl] at hS
  refine wpList_nil (hK25 _ _ ?_)
  refine k0 ?_; intro K26 hK26
  refine regS hF hS (aQ rfl <| sq_end) fun a w hF hS => ?_
  refine wp_block ?_
  obtain ⟨hs0, hhs0, hS⟩ := hS.oh
  refine wp_loopx (γ := Int) (0) (fun (j : Int) => [(19, vi j)]) [(2, _), (3, _), (18, _)] (fun (j : Int) => (hs0.set 0 (.blk b7 141 ((Sha.outW (Sha.refS (xs ++ Sha.pad (ofq xs.length)) i) j.toNat).map vb)))) (fun (j : Int) => 0 ≤ j ∧ j ≤ 32) (fun (j : Int) => (32 - j).toNat) (hF.sub ⟨rfl, rfl, rfl, rfl, trivial⟩) (by subst hhs0; exact hS) (by simp) ?_
  rintro j a w hfact hF hS
  subst hhs0; (try dsimp only at hfact hF hS)
  obtain ⟨hj0, hj1⟩ := hfact
  replace hS := nl1_3 hS
  have hol := Sha.outW_len (Sha.refS (xs ++ Sha.pad (ofq xs.length)) i) j.toNat
  have hrq := Sha.refS_len (xs ++ Sha.pad (ofq xs.length)) i
  refine k0 ?_; intro K28 hK28
  refine regS hF hS (mQ rfl <| q0 (q_lti rfl rfl) <| sq_end) fun a w hF hS => ?_
  refine wp_ifd hF rfl (fun hc3 => ?_) (fun hc3 => ?_)
  ·refine wp_skip ?_
   refine hK28 _ _ ?_
   refine k0 ?_; intro K30 hK30
   refine wp_block ?_
   refine regl ?_
   refine lQ hF hS (mQ rfl <| mQ rfl <| q0 (q_quoi rfl rfl omQ) <| q0 (q_idx_arr0 ty152 ty151 rfl rfl omQ) <| q0 (q_ld_blkM ty151 1 0 rfl rfl bQ rfl) <| mQ rfl <| q0 (q_remi rfl rfl omQ) <| q0 (q_muli rfl rfl omQ) <| dQ rfl rfl <| q0 (q_shrw rfl rfl omQ) <| q0 (q_cv_wb ty151 ty5 rfl) <| q0 (q_idx_arr0 ty141 ty5 rfl rfl omQ) <| sq_end) fun a w hF hS => ?_
   refine eQ hF hS rfl (ef_st_blkM ty5 0 rfl rfl rfl bQ rfl) ?_
   rintro _ _ _ a w ⟨rfl, rfl, rfl⟩ hF hS
   replace hS := nl1_3 hS
   refine wpList_nil (hK30 _ _ ?_)
   refine reg hF hS (mQ rfl <| pQ rfl rfl <| aQ rfl <| sq_end) fun a w hF hS => ?_
   refine ⟨(j + 1), ?_, ?_, hF.sub ⟨rfl, rfl, rfl, rfl, trivial⟩, ?_⟩
   ·(try dsimp only); omega
   ·(try dsimp only); omega
   ·rw [Sha.byte_w _ j ⟨hj0, by omega⟩, Sha.outW_step _ _ omQ, show j.toNat + 1 = (j + 1).toNat by omega] at hS
    exact hS
  ·obtain rfl : j = 32 := by omega
   rw [show (32 : Int).toNat = 32 from rfl, Sha.outW_32, ← hsr] at hS
   have hob := Sha.sum_len xs
   refine wp_exit ?_
   refine hK26 _ _ ?_
   refine reglS fun K31 hK31 => ?_
   refine lQ hF hS (q0 (q_ld_blkW ty141 0 rfl rfl bQ rfl) <| sq_end) fun a w hF hS => ?_
   refine eQ hF hS rfl (ef_storeW ty141 2 rfl rfl rfl rfl bQ oQ bQ) ?_
   rintro _ _ _ a w ⟨rfl, rfl, rfl⟩ hF hS
   replace hS := nl1_3 hS
   refine wpList_nil (hK31 _ _ ?_)
   refine wp_ret ?_
   exact fn_ret (rs := [.cell 2 141]) rfl hF hS (vs := [_]) ⟨⟨_, _, _, _, _, _, _, rfl, List.mem_of_getElem? (i := 2) rfl, ty141, .inl ⟨rfl, bQ, rfl⟩⟩, trivial⟩ zQ zQ (rfl)
end
section
theorem rtext_ct (xs : List UInt8) (hx : xs.length = 16) (w : World) : Ct Tryd.prog 84 [.agg (xs.map vb).toArray] w (fun r _ _ => r = vs xs) := by
 refine fn_enter Tryd.func84 rfl Tryd.ntmps84 lB fun a hF hS => ?_
 refine reglS fun K1 hK1 => ?_
 refine eQ hF hS rfl (ef_boxA rfl) ?_
 rintro _ _ _ a w ⟨b1, rfl, rfl, rfl⟩ hF hS
 refine lQ hF hS (aQ rfl <| sq_end) fun a w hF hS => ?_
 refine wpList_nil (hK1 _ _ ?_)
 refine k0 ?_; intro K2 hK2
 refine reg hF hS (aQ rfl <| sq_end) fun a w hF hS => ?_
 replace hS := hS.nilRow 5 1
 refine hK2 _ _ ?_
 refine k0 ?_; intro K3 hK3
 refine regS hF hS (aQ rfl <| sq_end) fun a w hF hS => ?_
 refine wp_block ?_
 obtain ⟨hs0, hhs0, hS⟩ := hS.oh
 refine wp_loopx (γ := Value × Int) ((Value.slice none 0 0), 0) (fun (v, i) => [(3, v), (4, vi i)]) [(1, _)] (fun (v, i) => (hs0.set 0 (.row v 5 1 i.toNat ((xs.take i.toNat).map vb)))) (fun (v, i) => 0 ≤ i ∧ i ≤ 16) (fun (v, i) => (16 - i).toNat) (hF.sub ⟨rfl, rfl, rfl, trivial⟩) (by subst hhs0; exact hS) (by simp) ?_
 rintro ⟨v, i⟩ a w hfact hF hS
 subst hhs0; (try dsimp only at hfact hF hS)
 obtain ⟨hi0, hi1⟩ := hfact
 replace hS := nl0_2 hS
 refine k0 ?_; intro K5 hK5
 refine regS hF hS (mQ rfl <| q0 (q_lti rfl rfl) <| sq_end) fun a w hF hS => ?_
 refine wp_ifd hF rfl (fun hc1 => ?_) (fun hc1 => ?_)
 ·refine wp_skip ?_
  refine hK5 _ _ ?_
  refine k0 ?_; intro K7 hK7
  refine wp_block ?_
  refine regl ?_
  refine lQ hF hS (mQ rfl <| mQ rfl <| q0 (q_idx_arr0 ty29 ty5 rfl rfl omQ) <| q0 (q_ld_blkM ty5 1 0 rfl rfl bQ rfl) <| sq_end) fun a w hF hS => ?_
  refine eQ hF hS rfl (ef_bsliceA ty39 ty5 rfl rfl oQ deQ rfl rfl) ?_
  rintro v3 _ _ a w ⟨rfl, rfl⟩ hF hS
  replace hS := nl0_3 hS
  refine eQ hF hS rfl (ef_append ty39 ty5 1 rfl rfl rfl (src_row ty39 (k := 0) rfl oQ) bQ rfl deQ) ?_
  rintro v5 _ _ a w ⟨rfl, rfl⟩ hF hS
  replace hS := nl0_3 hS
  refine lQ hF hS (aQ rfl <| sq_end) fun a w hF hS => ?_
  refine wpList_nil (hK7 _ _ ?_)
  refine reg hF hS (mQ rfl <| pQ rfl rfl <| aQ rfl <| sq_end) fun a w hF hS => ?_
  replace hS := hS.keep zQ (sN1)
  refine ⟨(v5, i + 1), ?_, ?_, hF.sub ⟨rfl, rfl, rfl, trivial⟩, ?_⟩
  ·(try dsimp only); omega
  ·(try dsimp only); omega
  ·have e : (xs.take i.toNat).map vb ++ [vb (xs.getD i.toNat 0)] = (xs.take (i + 1).toNat).map vb := by rw [show (i + 1).toNat = i.toNat + 1 by omega, List.take_add_one, List.getElem?_eq_getElem omQ, List.map_append, List.getD_eq_getElem?_getD, List.getElem?_eq_getElem omQ]; rfl
   rw [e, show i.toNat + 1 = (i + 1).toNat by omega] at hS
   exact hS
 ·obtain rfl : i = 16 := by omega
  rw [show (16 : Int).toNat = 16 from rfl, List.take_of_length_le omQ] at hS
  refine wp_exit ?_
  refine hK3 _ _ ?_
  refine regS hF hS (mQ rfl <| q0 (q_b2s_row ty39 ty9 ty5 0 rfl rfl) <| aQ rfl <| sq_end) fun a w hF hS => ?_
  refine wp_ret ?_
  exact fn_ret (rs := [.tmp 2]) rfl hF hS (vs := [_]) ⟨rfl, trivial⟩ zQ zQ (rfl)
end
section
attribute [local irreducible] Sha.sum Sha.keyOf Sha.padK Sha.mac
end
section
attribute [local irreducible] Sha.sum Sha.keyOf Sha.padK Sha.mac
end
section
theorem fn94 : FnOk Tryd.prog 94 := fQ Tryd.func94
attribute [local irreducible] Sha.sum Sha.cpW
theorem rshort_ct (v : Value) (xs : List UInt8) (hx : xs.length < 1099511627776) (w : World) (hb : Sl encB (ph w) v xs) {fz0 : Nat × Nat} {bt0 : TypeId} (hg0 : w.heap[0]? = some (.cells (Sha.kc.map vw).toArray bt0 fz0)) : Ct Tryd.prog 64 [v] w (fun r _ _ => r = .agg (((Sha.sum xs).take 16).map vb).toArray) := by
 refine fn_enter Tryd.func64 rfl Tryd.ntmps64 lB fun a hF hS => ?_
 have hsl := Sha.sum_len xs
 refine reglS fun K1 hK1 => ?_
 refine eQ hF hS rfl (ef_allocA ty29) ?_
 rintro _ _ _ a w ⟨b1, rfl, rfl, rfl⟩ hF hS
 rw [show List.replicate 16 (Value.int .u8 0) = (List.replicate 16 (0 : UInt8)).map vb from by rw [List.map_replicate] <;> rfl] at hS
 refine wpList_nil (hK1 _ _ ?_)
 refine reglS fun K2 hK2 => ?_
 refine lQ hF hS (mQ rfl <| q0 (q_call fn94 rfl (fun w hS => rsum_ct _ _ (by first | assumption | omega) w (Sl.mono (hS.le zin0) hb) (hS.ext _ _ hg0)) hI) <| sq_end) fun a w hF hS => ?_
 refine eQ hF hS rfl (ef_allocA ty141) ?_
 rintro _ _ _ a w ⟨b2, rfl, rfl, rfl⟩ hF hS
 rw [show List.replicate 32 (Value.int .u8 0) = (List.replicate 32 (0 : UInt8)).map vb from by rw [List.map_replicate] <;> rfl] at hS
 refine eQ hF hS rfl (ef_storeW ty141 0 rfl rfl rfl rfl bQ oQ bQ) ?_
 rintro _ _ _ a w ⟨rfl, rfl, rfl⟩ hF hS
 replace hS := nl0_2 hS
 refine wpList_nil (hK2 _ _ ?_)
 refine reglS fun K3 hK3 => ?_
 refine lQ hF hS (q0 (q_build rfl (run_build_arr ty29 ty5 (cells := List.replicate 16 (Value.int .u8 0)) rfl)) <| sq_end) fun a w hF hS => ?_
 refine eQ hF hS rfl (ef_allocA ty29) ?_
 rintro _ _ _ a w ⟨b3, rfl, rfl, rfl⟩ hF hS
 rw [show List.replicate 16 (Value.int .u8 0) = (List.replicate 16 (0 : UInt8)).map vb from by rw [List.map_replicate] <;> rfl] at hS
 refine eQ hF hS rfl (ef_storeW ty29 0 rfl rfl rfl rfl bQ oQ bQ) ?_
 rintro _ _ _ a w ⟨rfl, rfl, rfl⟩ hF hS
 replace hS := nl0_3 hS
 refine wpList_nil (hK3 _ _ ?_)
 refine k0 ?_; intro K4 hK4
 refine regS hF hS (aQ rfl <| sq_end) fun a w hF hS => ?_
 refine wp_block ?_
 obtain ⟨hs0, hhs0, hS⟩ := hS.oh
 refine wp_loopx (γ := Int) (0) (fun (i : Int) => [(5, vi i)]) [(2, _), (3, _), (4, _)] (fun (i : Int) => (hs0.set 0 (.blk b3 29 ((Sha.cpW (Sha.sum xs) 16 i.toNat).map vb)))) (fun (i : Int) => 0 ≤ i ∧ i ≤ 16) (fun (i : Int) => (16 - i).toNat) (hF.sub ⟨rfl, rfl, rfl, rfl, trivial⟩) (by subst hhs0; have e : (Sha.cpW (Sha.sum xs) 16 (0 : Int).toNat).map vb = List.replicate 16 (Value.int .u8 0) := (congrArg (List.map vb) (Sha.cpW_0 (Sha.sum xs) 16)).trans (by rw [List.map_replicate]; rfl); rw [← e] at hS; exact hS) (by simp) ?_
 rintro i a w hfact hF hS
 subst hhs0; (try dsimp only at hfact hF hS)
 obtain ⟨hi0, hi1⟩ := hfact
 replace hS := nl0_3 hS
 have hcl := Sha.cpW_len (Sha.sum xs) 16 i.toNat omQ omQ
 refine k0 ?_; intro K6 hK6
 refine regS hF hS (mQ rfl <| q0 (q_lti rfl rfl) <| sq_end) fun a w hF hS => ?_
 refine wp_ifd hF rfl (fun hc1 => ?_) (fun hc1 => ?_)
 ·refine wp_skip ?_
  refine hK6 _ _ ?_
  refine k0 ?_; intro K8 hK8
  refine wp_block ?_
  refine regl ?_
  refine lQ hF hS (mQ rfl <| mQ rfl <| q0 (q_idx_arr0 ty141 ty5 rfl rfl omQ) <| q0 (q_ld_blkM ty5 1 0 rfl rfl bQ rfl) <| q0 (q_idx_arr0 ty29 ty5 rfl rfl omQ) <| sq_end) fun a w hF hS => ?_
  refine eQ hF hS rfl (ef_st_blkM ty5 0 rfl rfl rfl bQ rfl) ?_
  rintro _ _ _ a w ⟨rfl, rfl, rfl⟩ hF hS
  replace hS := nl0_3 hS
  refine wpList_nil (hK8 _ _ ?_)
  refine reg hF hS (mQ rfl <| pQ rfl rfl <| aQ rfl <| sq_end) fun a w hF hS => ?_
  refine ⟨(i + 1), ?_, ?_, hF.sub ⟨rfl, rfl, rfl, rfl, trivial⟩, ?_⟩
  ·(try dsimp only); omega
  ·(try dsimp only); omega
  ·rw [Sha.cpW_step _ _ _ omQ omQ, show i.toNat + 1 = (i + 1).toNat by omega] at hS
   exact hS
 ·obtain rfl : i = 16 := by omega
  rw [show (16 : Int).toNat = 16 from rfl] at hcl
  rw [show (16 : Int).toNat = 16 from rfl, Sha.cpW_all] at hS
  rw [Sha.cpW_all] at hcl
  refine wp_exit ?_
  refine hK4 _ _ ?_
  refine reglS fun K9 hK9 => ?_
  refine lQ hF hS (q0 (q_ld_blkW ty29 0 rfl rfl bQ rfl) <| sq_end) fun a w hF hS => ?_
  refine eQ hF hS rfl (ef_storeW ty29 2 rfl rfl rfl rfl bQ oQ bQ) ?_
  rintro _ _ _ a w ⟨rfl, rfl, rfl⟩ hF hS
  replace hS := nl0_3 hS
  refine wpList_nil (hK9 _ _ ?_)
  refine wp_ret ?_
  exact fn_ret (rs := [.cell 2 29]) rfl hF hS (vs := [_]) ⟨⟨_, _, _, _, _, _, _, rfl, List.mem_of_getElem? (i := 2) rfl, ty29, .inl ⟨rfl, bQ, rfl⟩⟩, trivial⟩ zQ zQ (rfl)
end
section
theorem rint_ct (n : Int) (hn : -9223372036854775808 ≤ n ∧ n ≤ 9223372036854775807) (w : World) : Ct Tryd.prog 83 [vi n] w (fun v zs hs => zs = [] ∧ hs = [.row v 5 1 (Wi.int n).length ((Wi.int n).map vb)]) := by
 refine fn_enter Tryd.func83 rfl Tryd.ntmps83 lB fun a hF hS => ?_
 have hmm := Wi.mOf_mag n hn
 have hnb8 := Wi.nb_le (Wi.mOf n)
 refine regS hF hS (aQ rfl <| sq_end) fun a w hF hS => ?_
 refine regS hF hS (mQ rfl <| aQ rfl <| sq_end) fun a w hF hS => ?_
 obtain ⟨hs0, hhs0, hS⟩ := hS.oh
 refine wp_cutx (γ := Int) (fun (m : Int) => [(3, vi m)]) [(0, _)] (fun (m : Int) => hs0) (fun (m : Int) => m = ((Wi.mOf n).toNat : Int)) (hF.sub ⟨rfl, trivial⟩) hS ?_ ?_
 ·subst hhs0
  refine regS hF hS (mQ rfl <| q0 (q_lti rfl rfl) <| sq_end) fun a w hF hS => ?_
  refine wp_ifd hF rfl (fun hc1 => ?_) (fun hc1 => ?_)
  ·refine reg hF hS (mQ rfl <| dQ rfl rfl <| aQ rfl <| sq_end) fun a w hF hS => ?_
   refine ⟨(-1 - n), ?_, hF.sub ⟨rfl, rfl, trivial⟩, ?_⟩
   ·rw [hmm]; unfold Wi.mag; rw [if_pos hc1]
   ·exact hS
  ·refine wp_skip ?_
   refine ⟨(n), ?_, hF.sub ⟨rfl, rfl, trivial⟩, ?_⟩
   ·rw [hmm]; unfold Wi.mag; rw [if_neg hc1]
   ·exact hS
 rintro m a w hfact hF hS
 subst hhs0; (try dsimp only at hfact hF hS)
 have hm := hfact
 replace hS : St _ [] [] _ := hS
 refine k0 ?_; intro K4 hK4
 refine reg hF hS (aQ rfl <| sq_end) fun a w hF hS => ?_
 replace hS := hS.nilRow 5 1
 refine hK4 _ _ ?_
 refine k0 ?_; intro K5 hK5
 refine wp_block ?_
 obtain ⟨hs0, hhs0, hS⟩ := hS.oh
 refine wp_loopx (γ := Value × Int × Nat) ((Value.slice none 0 0), m, 0) (fun (v, m, j) => [(4, v), (3, vi m)]) [(0, _)] (fun (v, m, j) => (hs0.set 0 (.row v 5 1 j ((Wi.digLE (Wi.mOf n).toNat j).map vb)))) (fun (v, m, j) => m = (((Wi.mOf n).toNat / 2 ^ (8 * j) : Nat) : Int) ∧ (∀ i, i < j → 0 < (Wi.mOf n).toNat / 2 ^ (8 * i))) (fun (v, m, j) => m.toNat) (hF.sub ⟨rfl, rfl, rfl, trivial⟩) (by subst hhs0; exact hS) (by exact ⟨by rw [hm]; simp, fun i h => absurd h (Nat.not_lt_zero _)⟩) ?_
 rintro ⟨v, m, j⟩ a w hfact hF hS
 subst hhs0; (try dsimp only at hfact hF hS)
 obtain ⟨hm, hj⟩ := hfact
 replace hS := nl0_1 hS
 have hj8 := Wi.nb_max _ _ hj
 have hdv := Wi.div_le (Wi.mOf n).toNat (2 ^ (8 * j))
 rw [← hm] at hdv
 have hmr : 0 ≤ m ∧ m ≤ 9223372036854775807 := by
  have hm0 : 0 ≤ m := by rw [hm]; exact Int.natCast_nonneg _
  unfold Wi.mag at hmm
  split at hmm <;> exact ⟨hm0, by omega⟩
 refine k0 ?_; intro K6 hK6
 refine regS hF hS (mQ rfl <| q0 (q_gti rfl rfl) <| sq_end) fun a w hF hS => ?_
 refine wp_ifd hF rfl (fun hc2 => ?_) (fun hc2 => ?_)
 ·refine wp_skip ?_
  refine hK6 _ _ ?_
  refine wp_block ?_
  refine reglS fun K8 hK8 => ?_
  refine lQ hF hS (mQ rfl <| mQ rfl <| q0 (q_remi rfl rfl omQ) <| q0 (q_cv_ib ty3 ty5 rfl) <| sq_end) fun a w hF hS => ?_
  refine eQ hF hS rfl (ef_bsliceA ty39 ty5 rfl rfl oQ deQ rfl rfl) ?_
  rintro v2 _ _ a w ⟨rfl, rfl⟩ hF hS
  replace hS := nl0_2 hS
  refine eQ hF hS rfl (ef_append ty39 ty5 1 rfl rfl rfl (src_row ty39 (k := 0) rfl oQ) bQ rfl deQ) ?_
  rintro v4 _ _ a w ⟨rfl, rfl⟩ hF hS
  replace hS := nl0_2 hS
  refine lQ hF hS (aQ rfl <| sq_end) fun a w hF hS => ?_
  refine wpList_nil (hK8 _ _ ?_)
  refine reg hF hS (mQ rfl <| q0 (q_quoi rfl rfl omQ) <| aQ rfl <| sq_end) fun a w hF hS => ?_
  replace hS := hS.keep zQ (sN1)
  refine ⟨(v4, m / 256, j + 1), ?_, ?_, hF.sub ⟨rfl, rfl, rfl, trivial⟩, ?_⟩
  ·(try dsimp only); omega
  ·refine ⟨Wi.div_step _ _ _ hm, fun i hi => ?_⟩
   rcases Nat.lt_or_ge i j with h | h
   ·exact hj i h
   ·obtain rfl : i = j := by omega
    omega
  ·have e : (Wi.digLE (Wi.mOf n).toNat j).map vb ++ [vb (ofb (m % 256))] = (Wi.digLE (Wi.mOf n).toNat (j + 1)).map vb := by rw [← Wi.digLE_step _ _ _ hm, List.map_append]; rfl
   rw [e] at hS
   exact hS
 ·have hk := Wi.nb_un (Wi.mOf n) j omQ hj
  obtain ⟨k, hkj⟩ : ∃ k, k = j := ⟨_, rfl⟩
  subst hkj
  refine wp_exit ?_
  refine hK5 _ _ ?_
  refine regS hF hS (mQ rfl <| q0 (q_len_row ty39 0 rfl rfl) <| aQ rfl <| sq_end) fun a w hF hS => ?_
  refine k0 ?_; intro K10 hK10
  refine reg hF hS (aQ rfl <| sq_end) fun a w hF hS => ?_
  replace hS := hS.nilRow 5 1
  refine hK10 _ _ ?_
  obtain ⟨hs0, hhs0, hS⟩ := hS.oh
  refine wp_cutx (γ := Value) (fun (u : Value) => [(6, u)]) [(0, _), (4, _), (5, _)] (fun (u : Value) => (hs0.set 0 (.row u 5 1 1 [vb (UInt8.ofNat (128 + k) ^^^ Wi.flOf n)]))) (fun (u : Value) => True) (hF.sub ⟨rfl, rfl, rfl, trivial⟩) hS ?_ ?_
  ·subst hhs0
   refine regS hF hS (mQ rfl <| q0 (q_gei rfl rfl) <| sq_end) fun a w hF hS => ?_
   refine wp_ifd hF rfl (fun hc3 => ?_) (fun hc3 => ?_)
   ·refine regl ?_
    refine lQ hF hS (mQ rfl <| mQ rfl <| pQ rfl rfl <| q0 (q_cv_ib ty3 ty5 rfl) <| sq_end) fun a w hF hS => ?_
    refine eQ hF hS rfl (ef_bsliceA ty39 ty5 rfl rfl oQ deQ rfl rfl) ?_
    rintro v6 _ _ a w ⟨rfl, rfl⟩ hF hS
    replace hS := nl0_3 hS
    refine eQ hF hS rfl (ef_append ty39 ty5 1 rfl rfl rfl (src_row ty39 (k := 0) rfl oQ) bQ rfl deQ) ?_
    rintro v8 _ _ a w ⟨rfl, rfl⟩ hF hS
    replace hS := nl0_3 hS
    refine lQ hF hS (aQ rfl <| sq_end) fun a w hF hS => ?_
    refine wpList_nil ?_
    replace hS := hS.perm (.swap _ _ _)
    replace hS := hS.perm (.cons _ (.swap _ _ _))
    replace hS := hS.keep zQ (zQ.k.k)
    refine ⟨(v8), ?_, hF.sub ⟨rfl, rfl, rfl, rfl, trivial⟩, ?_⟩
    ·trivial
    ·rw [show (128 : Int) + (k : Int) = ((128 + k : Nat) : Int) by omega, Wi.ofb_nat] at hS
     unfold Wi.flOf
     rw [if_neg omQ, UInt8.xor_zero]
     exact hS
   ·refine regl ?_
    refine lQ hF hS (mQ rfl <| mQ rfl <| dQ rfl rfl <| q0 (q_cv_ib ty3 ty5 rfl) <| sq_end) fun a w hF hS => ?_
    refine eQ hF hS rfl (ef_bsliceA ty39 ty5 rfl rfl oQ deQ rfl rfl) ?_
    rintro v9 _ _ a w ⟨rfl, rfl⟩ hF hS
    replace hS := nl0_3 hS
    refine eQ hF hS rfl (ef_append ty39 ty5 1 rfl rfl rfl (src_row ty39 (k := 0) rfl oQ) bQ rfl deQ) ?_
    rintro v11 _ _ a w ⟨rfl, rfl⟩ hF hS
    replace hS := nl0_3 hS
    refine lQ hF hS (aQ rfl <| sq_end) fun a w hF hS => ?_
    refine wpList_nil ?_
    replace hS := hS.perm (.swap _ _ _)
    replace hS := hS.perm (.cons _ (.swap _ _ _))
    replace hS := hS.keep zQ (zQ.k.k)
    refine ⟨(v11), ?_, hF.sub ⟨rfl, rfl, rfl, rfl, trivial⟩, ?_⟩
    ·trivial
    ·rw [Wi.head_neg k omQ] at hS
     unfold Wi.flOf
     rw [if_pos omQ]
     exact hS
  rintro u a w hfact hF hS
  subst hhs0; (try dsimp only at hfact hF hS)
  obtain - := hfact
  replace hS := nl0_2 hS
  refine k0 ?_; intro K12 hK12
  refine regS hF hS (mQ rfl <| dQ rfl rfl <| aQ rfl <| sq_end) fun a w hF hS => ?_
  refine wp_block ?_
  obtain ⟨hs0, hhs0, hS⟩ := hS.oh
  refine wp_loopx (γ := Value × Nat) (u, k) (fun (u, i) => [(6, u), (7, vi ((i : Int) - 1))]) [(0, _), (4, _)] (fun (u, i) => (hs0.set 0 (.row u 5 1 (1 + (k - i)) (((UInt8.ofNat (128 + k) ^^^ Wi.flOf n) :: Wi.digsFrom (Wi.mOf n) (Wi.flOf n) k i).map vb)))) (fun (u, i) => i ≤ k) (fun (u, i) => i) (hF.sub ⟨rfl, rfl, rfl, rfl, trivial⟩) (by subst hhs0; simpa [Wi.digsFrom] using hS) (by exact Nat.le_refl _) ?_
  rintro ⟨u, i⟩ a w hfact hF hS
  subst hhs0; (try dsimp only at hfact hF hS)
  have hik := hfact
  replace hS := nl0_2 hS
  have hdl := Wi.digLE_len (Wi.mOf n).toNat k
  refine k0 ?_; intro K14 hK14
  refine regS hF hS (mQ rfl <| q0 (q_gei rfl rfl) <| sq_end) fun a w hF hS => ?_
  refine wp_ifd hF rfl (fun hc4 => ?_) (fun hc4 => ?_)
  ·refine wp_skip ?_
   refine hK14 _ _ ?_
   refine k0 ?_; intro K16 hK16
   refine wp_block ?_
   refine regS hF hS (mQ rfl <| mQ rfl <| q0 (q_idx_row ty39 ty5 1 rfl rfl rfl omQ) <| q0 (q_ld_rowM ty5 1 (0 : UInt8) rfl rfl bQ rfl) <| aQ rfl <| sq_end) fun a w hF hS => ?_
   obtain ⟨hs0, hhs0, hS⟩ := hS.oh
   refine wp_cutx (γ := UInt8) (fun (d : UInt8) => [(8, vb d)]) [(0, _), (4, _), (6, _), (7, _)] (fun (d : UInt8) => hs0) (fun (d : UInt8) => d = Wi.digit (Wi.mOf n) (Wi.flOf n) (i - 1)) (hF.sub ⟨rfl, rfl, rfl, rfl, trivial⟩) hS ?_ ?_
   ·subst hhs0
    refine regS hF hS (mQ rfl <| q0 (q_lti rfl rfl) <| sq_end) fun a w hF hS => ?_
    refine wp_ifd hF rfl (fun hc5 => ?_) (fun hc5 => ?_)
    ·refine reg hF hS (mQ rfl <| q0 (q_subb (p := 255) rfl rfl) <| aQ rfl <| sq_end) fun a w hF hS => ?_
     refine ⟨(255 - (Wi.digLE (Wi.mOf n).toNat k).getD ((i : Int) - 1).toNat 0), ?_, hF.sub ⟨rfl, rfl, rfl, rfl, rfl, trivial⟩, ?_⟩
     ·rw [Wi.fl_sub, Wi.digLE_get _ _ _ omQ, show ((i : Int) - 1).toNat = i - 1 by omega]; unfold Wi.digit Wi.flOf; rw [if_pos omQ]
     ·exact hS
    ·refine wp_skip ?_
     refine ⟨((Wi.digLE (Wi.mOf n).toNat k).getD ((i : Int) - 1).toNat 0), ?_, hF.sub ⟨rfl, rfl, rfl, rfl, rfl, trivial⟩, ?_⟩
     ·rw [Wi.digLE_get _ _ _ omQ, show ((i : Int) - 1).toNat = i - 1 by omega]; unfold Wi.digit Wi.flOf; rw [if_neg omQ, UInt8.xor_zero]
     ·exact hS
   rintro d a w hfact hF hS
   subst hhs0; (try dsimp only at hfact hF hS)
   have hd := hfact
   replace hS := nl0_2 hS
   refine regl ?_
   refine lQ hF hS (mQ rfl <| mQ rfl <| sq_end) fun a w hF hS => ?_
   refine eQ hF hS rfl (ef_bsliceA ty39 ty5 rfl rfl oQ deQ rfl rfl) ?_
   rintro v12 _ _ a w ⟨rfl, rfl⟩ hF hS
   replace hS := nl0_3 hS
   refine eQ hF hS rfl (ef_append ty39 ty5 1 rfl rfl rfl (src_row ty39 (k := 0) rfl oQ) bQ rfl deQ) ?_
   rintro v14 _ _ a w ⟨rfl, rfl⟩ hF hS
   replace hS := nl0_3 hS
   refine lQ hF hS (aQ rfl <| sq_end) fun a w hF hS => ?_
   refine wpList_nil (hK16 _ _ ?_)
   refine reg hF hS (mQ rfl <| dQ rfl rfl <| aQ rfl <| sq_end) fun a w hF hS => ?_
   rw [show (i : Int) - 1 - 1 = ((i - 1 : Nat) : Int) - 1 by omega] at hF
   replace hS := hS.keep zQ (sN1)
   refine ⟨(v14, i - 1), ?_, ?_, hF.sub ⟨rfl, rfl, rfl, rfl, trivial⟩, ?_⟩
   ·(try dsimp only); omega
   ·(try dsimp only); omega
   ·subst hd
    have e : ((UInt8.ofNat (128 + k) ^^^ Wi.flOf n) :: Wi.digsFrom (Wi.mOf n) (Wi.flOf n) k i).map vb ++ [vb (Wi.digit (Wi.mOf n) (Wi.flOf n) (i - 1))] = ((UInt8.ofNat (128 + k) ^^^ Wi.flOf n) :: Wi.digsFrom (Wi.mOf n) (Wi.flOf n) k (i - 1)).map vb := by rw [← Wi.digs_step _ _ k (i - 1) omQ, show i - 1 + 1 = i by omega]; simp
    rw [e, show 1 + (k - i) + 1 = 1 + (k - (i - 1)) by omega] at hS
    exact hS
  ·obtain rfl : i = 0 := by omega
   have e : ((UInt8.ofNat (128 + k) ^^^ Wi.flOf n) :: Wi.digsFrom (Wi.mOf n) (Wi.flOf n) k 0) = Wi.int n := by rw [hk]; rfl
   have el : 1 + (k - 0) = (Wi.int n).length := by rw [← e]; simp [Wi.digs_len]; omega
   rw [e, el] at hS
   refine wp_exit ?_
   refine hK12 _ _ ?_
   refine regS hF hS (mQ rfl <| aQ rfl <| sq_end) fun a w hF hS => ?_
   refine wp_ret ?_
   exact fn_ret (rs := [.tmp 2]) rfl hF hS (vs := [_]) ⟨rfl, trivial⟩ zQ (List.Sublist.cons_cons _ zQ) ⟨rfl, rfl⟩
end
section
theorem fn83 : FnOk Tryd.prog 83 := fQ Tryd.func83
attribute [local irreducible] Sha.sum Wi.int
theorem rbytes_ct (t : List UInt8) (ht : t.length < 1099511627776) (w : World) : Ct Tryd.prog 95 [vs t] w (fun v zs hs => zs = [] ∧ hs = [.row v 5 1 (Wi.bytes t).length ((Wi.bytes t).map vb)]) := by
 refine fn_enter Tryd.func95 rfl Tryd.ntmps95 lB fun a hF hS => ?_
 have hil := Wi.int_len9 t.length
 refine regS hF hS (aQ rfl <| sq_end) fun a w hF hS => ?_
 refine reglS fun K2 hK2 => ?_
 refine lQ hF hS (mQ rfl <| q0 (q_len_s ty9 rfl) <| sq_end) fun a w hF hS => ?_
 refine eQ hF hS rfl (ef_call fn83 rfl (fun w hS => rint_ct _ omQ w )) ?_
 rintro v1 _ _ a w ⟨_, _, rfl, rfl, rfl, rfl⟩ hF hS
 replace hS := nl0_1 hS
 refine lQ hF hS (mQ rfl <| sq_end) fun a w hF hS => ?_
 refine eQ hF hS rfl (ef_s2b ty9 ty39 ty5 rfl omQ) ?_
 rintro v3 _ _ a w ⟨z4, rfl, rfl, hz5⟩ hF hS
 refine eQ hF hS rfl (ef_append ty39 ty5 0 rfl rfl rfl (src_slV ty39 hz5 (.inr (by simp))) bQ rfl deQ) ?_
 rintro v6 _ _ a w ⟨rfl, rfl⟩ hF hS
 replace hS := nl1_1 hS
 refine lQ hF hS (aQ rfl <| sq_end) fun a w hF hS => ?_
 refine wpList_nil (hK2 _ _ ?_)
 refine wp_ret ?_
 rw [← List.map_append, show (Wi.int t.length).length + t.length = (Wi.bytes t).length by simp [Wi.bytes]] at hS
 exact fn_ret (rs := [.tmp 2]) rfl hF hS (vs := [_]) ⟨rfl, trivial⟩ zQ sQ ⟨rfl, rfl⟩
end
section
theorem fn64 : FnOk Tryd.prog 64 := fQ Tryd.func64
theorem fn65 : FnOk Tryd.prog 65 := fQ Tryd.func65
theorem fn95 : FnOk Tryd.prog 95 := fQ Tryd.func95
attribute [local irreducible] Sha.sum Wi.int Wi.bytes Sha.inp
theorem rinput_ct (tag : Int) (v : Value) (ps : List (List UInt8)) (hp : ∀ p ∈ ps, p.length < 1048576) (hl : ps.length < 1048576) (w : World) (hb : Sl Go.Fw.encS (ph w) v ps) : Ct Tryd.prog 65 [vi tag, v] w (fun r zs hs => ∃ z, Sl encB z r (Sha.inp tag ps) ∧ zs = [z] ∧ hs = []) := by
 refine fn_enter Tryd.func65 rfl Tryd.ntmps65 lB fun a hF hS => ?_
 refine regS hF hS (aQ rfl <| sq_end) fun a w hF hS => ?_
 refine reglS fun K2 hK2 => ?_
 refine lQ hF hS (mQ rfl <| q0 (q_cv_ib ty3 ty5 rfl) <| sq_end) fun a w hF hS => ?_
 refine eQ hF hS rfl (ef_bsliceA ty39 ty5 rfl rfl oQ deQ rfl rfl) ?_
 rintro v1 _ _ a w ⟨rfl, rfl⟩ hF hS
 replace hS := nl0_1 hS
 refine lQ hF hS (aQ rfl <| sq_end) fun a w hF hS => ?_
 refine wpList_nil (hK2 _ _ ?_)
 refine k0 ?_; intro K3 hK3
 refine regS hF hS (aQ rfl <| sq_end) fun a w hF hS => ?_
 refine wp_block ?_
 obtain ⟨hs0, hhs0, hS⟩ := hS.oh
 refine wp_loopx (γ := Value × Int) (v1, 0) (fun (u, i) => [(5, u), (6, vi i)]) [(1, _)] (fun (u, i) => (hs0.set 0 (.row u 5 1 (Sha.inp tag (ps.take i.toNat)).length ((Sha.inp tag (ps.take i.toNat)).map vb)))) (fun (u, i) => 0 ≤ i ∧ i ≤ ps.length) (fun (u, i) => (ps.length - i).toNat) (hF.sub ⟨rfl, rfl, rfl, trivial⟩) (by subst hhs0; have e : Sha.inp tag (ps.take (0 : Int).toNat) = [ofb tag] := (by unfold Sha.inp; rfl); dsimp only; rw [e]; exact hS) (by exact ⟨Int.le_refl _, by omega⟩) ?_
 rintro ⟨u, i⟩ a w hfact hF hS
 subst hhs0; (try dsimp only at hfact hF hS)
 obtain ⟨hi0, hi1⟩ := hfact
 replace hS := nl0_1 hS
 have hpt : ∀ p ∈ ps.take i.toNat, p.length < 1048576 := fun p h => hp p (List.mem_of_mem_take h)
 have htl := Sha.inp_len tag (ps.take i.toNat) hpt
 rw [List.length_take] at htl
 refine k0 ?_; intro K5 hK5
 refine regS hF hS (mQ rfl <| mQ rfl <| q0 (q_len_sl ty47 hb rfl) <| q0 (q_lti rfl rfl) <| sq_end) fun a w hF hS => ?_
 refine wp_ifd hF rfl (fun hc1 => ?_) (fun hc1 => ?_)
 ·have hpi := hp _ (Sha.getD_mem ps i.toNat omQ)
  have hbl := Wi.bytes_len (ps.getD i.toNat [])
  refine wp_skip ?_
  refine hK5 _ _ ?_
  refine k0 ?_; intro K7 hK7
  refine wp_block ?_
  refine regl ?_
  refine lQ hF hS (mQ rfl <| mQ rfl <| mQ rfl <| q0 (q_idx_sl ty47 ty9 hb rfl rfl omQ) <| q0 (q_ld_S ty9 hb zin0 rfl rfl omQ) <| sq_end) fun a w hF hS => ?_
  refine eQ hF hS rfl (ef_call fn95 rfl (fun w hS => rbytes_ct _ (by first | with_reducible assumption | omega) w )) ?_
  rintro v3 _ _ a w ⟨_, _, rfl, rfl, rfl, rfl⟩ hF hS
  replace hS := nl0_2 hS
  refine eQ hF hS rfl (ef_append ty39 ty5 1 rfl rfl rfl (src_row ty39 (k := 0) rfl oQ) bQ rfl deQ) ?_
  rintro v5 _ _ a w ⟨rfl, rfl⟩ hF hS
  replace hS := nl0_2 hS
  refine lQ hF hS (aQ rfl <| sq_end) fun a w hF hS => ?_
  refine wpList_nil (hK7 _ _ ?_)
  refine reg hF hS (mQ rfl <| pQ rfl rfl <| aQ rfl <| sq_end) fun a w hF hS => ?_
  replace hS := hS.keep zQ (sN1)
  refine ⟨(v5, i + 1), ?_, ?_, hF.sub ⟨rfl, rfl, rfl, trivial⟩, ?_⟩
  ·(try dsimp only); omega
  ·(try dsimp only); omega
  ·rw [← List.map_append, Sha.inp_step _ _ _ omQ, ← List.length_append, Sha.inp_step _ _ _ omQ, show i.toNat + 1 = (i + 1).toNat by omega] at hS
   exact hS
 ·obtain rfl : i = ps.length := by omega
  rw [Int.toNat_natCast, List.take_length] at hS
  refine wp_exit ?_
  refine hK3 _ _ ?_
  refine regS hF hS (mQ rfl <| aQ rfl <| sq_end) fun a w hF hS => ?_
  refine wp_ret ?_
  have hil := Sha.inp_len tag ps hp
  obtain ⟨z, hz1, hS⟩ := St.freezeB hS rfl omQ
  exact fn_ret (rs := [.tmp 4]) rfl hF hS (vs := [_]) ⟨rfl, trivial⟩ (zs' := [z]) (hs' := []) sQ zQ ⟨z, hz1, rfl, rfl⟩
end
section
theorem ty22 : Tf Tryd.prog 22 (.slice 3) 1 24 (Value.slice none 0 0) := ⟨Tryd.underlying22, by kernel_rfl⟩
theorem ty48 : Tf Tryd.prog 48 (.slice 29) 1 24 (Value.slice none 0 0) := ⟨Tryd.underlying48, by kernel_rfl⟩
theorem same_ct (v1 v2 : Value) (xa xb : List UInt8) (w : World) (hb1 : Sl encB (ph w) v1 xa) (hb2 : Sl encB (ph w) v2 xb) : Ct Tryd.prog 41 [v1, v2] w (fun r _ _ => r = .bool (decide (xa = xb))) := by
 refine fn_enter Tryd.func41 rfl Tryd.ntmps41 lB fun a hF hS => ?_
 have hla := hb1.1
 have hlb := hb2.1
 refine regS hF hS (aQ rfl <| sq_end) fun a w hF hS => ?_
 refine k0 ?_; intro K2 hK2
 refine regS hF hS (mQ rfl <| q0 (q_len_sl ty39 hb1 rfl) <| mQ rfl <| q0 (q_len_sl ty39 hb2 rfl) <| q0 (q_nei rfl rfl) <| sq_end) fun a w hF hS => ?_
 refine wp_ifn hF rfl (fun hc1 => ?_) (fun hc1 => ?_)
 ·refine k0 ?_; intro K4 hK4
  refine reg hF hS (aQ rfl <| sq_end) fun a w hF hS => ?_
  refine hK4 _ _ ?_
  refine wp_ret ?_
  exact fn_ret (rs := [.tmp 4]) rfl hF hS (vs := [_]) ⟨rfl, trivial⟩ zQ zQ (Ls.same_len hc1)
 ·refine wp_skip ?_
  refine hK2 _ _ ?_
  refine k0 ?_; intro K5 hK5
  refine regS hF hS (aQ rfl <| sq_end) fun a w hF hS => ?_
  refine wp_block ?_
  obtain ⟨hs0, hhs0, hS⟩ := hS.oh
  refine wp_loopx (γ := Int) (0) (fun (i : Int) => [(5, vi i)]) [(0, _), (1, _)] (fun (i : Int) => hs0) (fun (i : Int) => 0 ≤ i ∧ i ≤ xa.length ∧ xa.take i.toNat = xb.take i.toNat) (fun (i : Int) => (xa.length - i).toNat) (hF.sub ⟨rfl, rfl, rfl, trivial⟩) (by subst hhs0; exact hS) (by exact ⟨Int.le_refl _, by omega, rfl⟩) ?_
  rintro i a w hfact hF hS
  subst hhs0; (try dsimp only at hfact hF hS)
  obtain ⟨hi0, hi1, htk⟩ := hfact
  replace hS : St _ [] [] _ := hS
  refine k0 ?_; intro K7 hK7
  refine regS hF hS (mQ rfl <| mQ rfl <| q0 (q_len_sl ty39 hb1 rfl) <| q0 (q_lti rfl rfl) <| sq_end) fun a w hF hS => ?_
  refine wp_ifd hF rfl (fun hc2 => ?_) (fun hc2 => ?_)
  ·have hi2 : i < xb.length := by omega
   refine wp_skip ?_
   refine hK7 _ _ ?_
   refine k0 ?_; intro K9 hK9
   refine wp_block ?_
   refine regdS mixed kQ hF hS (mQ rfl <| mQ rfl <| q0 (q_idx_sl ty39 ty5 hb1 rfl rfl omQ) <| q0 (q_ld_B ty5 hb1 zin0 rfl rfl omQ) <| mQ rfl <| mQ rfl <| q0 (q_idx_sl ty39 ty5 hb2 rfl rfl omQ) <| q0 (q_ld_B ty5 hb2 zin0 rfl rfl omQ) <| q0 (q_neb rfl rfl) <| sq_end) fun a w hF hS => ?_
   refine wp_ifn hF rfl (fun hc3 => ?_) (fun hc3 => ?_)
   ·refine k0 ?_; intro K11 hK11
    refine reg hF hS (aQ rfl <| sq_end) fun a w hF hS => ?_
    refine hK11 _ _ ?_
    refine wp_ret ?_
    exact fn_ret (rs := [.tmp 4]) rfl hF hS (vs := [_]) ⟨rfl, trivial⟩ zQ zQ (Ls.same_ne 0 hc3)
   ·refine wp_skip ?_
    refine hK9 _ _ ?_
    refine reg hF hS (mQ rfl <| pQ rfl rfl <| aQ rfl <| sq_end) fun a w hF hS => ?_
    refine ⟨(i + 1), ?_, ?_, hF.sub ⟨rfl, rfl, rfl, trivial⟩, ?_⟩
    ·(try dsimp only); omega
    ·refine ⟨by omega, by omega, Ls.same_step 0 hi0 omQ hc1 hc3 htk⟩
    ·exact hS
  ·refine wp_exit ?_
   refine hK5 _ _ ?_
   refine regS hF hS (aQ rfl <| sq_end) fun a w hF hS => ?_
   refine wp_ret ?_
   exact fn_ret (rs := [.tmp 4]) rfl hF hS (vs := [_]) ⟨rfl, trivial⟩ zQ zQ (Ls.same_eq hc1 hc2 htk)
theorem samed_ct (v1 v2 : Value) (xa xb : List (List UInt8)) (w : World) (hb1 : Sl (encA 16) (ph w) v1 xa) (hb2 : Sl (encA 16) (ph w) v2 xb) : Ct Tryd.prog 60 [v1, v2] w (fun r _ _ => r = .bool (decide (xa = xb))) := by
 refine fn_enter Tryd.func60 rfl Tryd.ntmps60 lB fun a hF hS => ?_
 have hla := hb1.1
 have hlb := hb2.1
 have h16a : ∀ i, i < xa.length → (xa.getD i []).length = 16 := fun i hi => (hb1.rep (i := i) (x := xa.getD i []) (by simp [hi])).1
 have h16b : ∀ i, i < xb.length → (xb.getD i []).length = 16 := fun i hi => (hb2.rep (i := i) (x := xb.getD i []) (by simp [hi])).1
 refine regS hF hS (aQ rfl <| sq_end) fun a w hF hS => ?_
 refine k0 ?_; intro K2 hK2
 refine regS hF hS (mQ rfl <| q0 (q_len_sl ty48 hb1 rfl) <| mQ rfl <| q0 (q_len_sl ty48 hb2 rfl) <| q0 (q_nei rfl rfl) <| sq_end) fun a w hF hS => ?_
 refine wp_ifn hF rfl (fun hc1 => ?_) (fun hc1 => ?_)
 ·refine k0 ?_; intro K4 hK4
  refine reg hF hS (aQ rfl <| sq_end) fun a w hF hS => ?_
  refine hK4 _ _ ?_
  refine wp_ret ?_
  exact fn_ret (rs := [.tmp 4]) rfl hF hS (vs := [_]) ⟨rfl, trivial⟩ zQ zQ (Ls.same_len hc1)
 ·refine wp_skip ?_
  refine hK2 _ _ ?_
  refine k0 ?_; intro K5 hK5
  refine regS hF hS (aQ rfl <| sq_end) fun a w hF hS => ?_
  refine wp_block ?_
  obtain ⟨hs0, hhs0, hS⟩ := hS.oh
  refine wp_loopx (γ := Int) (0) (fun (i : Int) => [(5, vi i)]) [(0, _), (1, _)] (fun (i : Int) => hs0) (fun (i : Int) => 0 ≤ i ∧ i ≤ xa.length ∧ xa.take i.toNat = xb.take i.toNat) (fun (i : Int) => (xa.length - i).toNat) (hF.sub ⟨rfl, rfl, rfl, trivial⟩) (by subst hhs0; exact hS) (by exact ⟨Int.le_refl _, by omega, rfl⟩) ?_
  rintro i a w hfact hF hS
  subst hhs0; (try dsimp only at hfact hF hS)
  obtain ⟨hi0, hi1, htk⟩ := hfact
  replace hS : St _ [] [] _ := hS
  refine k0 ?_; intro K7 hK7
  refine regS hF hS (mQ rfl <| mQ rfl <| q0 (q_len_sl ty48 hb1 rfl) <| q0 (q_lti rfl rfl) <| sq_end) fun a w hF hS => ?_
  refine wp_ifd hF rfl (fun hc2 => ?_) (fun hc2 => ?_)
  ·have hi2 : i < xb.length := by omega
   have h16a1 := h16a i.toNat omQ
   have h16b1 := h16b i.toNat omQ
   refine wp_skip ?_
   refine hK7 _ _ ?_
   refine k0 ?_; intro K9 hK9
   refine wp_block ?_
   refine regdS mixed kQ hF hS (mQ rfl <| mQ rfl <| q0 (q_idx_sl ty48 ty29 hb1 rfl rfl omQ) <| q0 (q_ld_AB ty29 hb1 zin0 rfl rfl deQ omQ) <| mQ rfl <| mQ rfl <| q0 (q_idx_sl ty48 ty29 hb2 rfl rfl omQ) <| q0 (q_ld_AB ty29 hb2 zin0 rfl rfl deQ omQ) <| q0 (q_neAB ty29 ty5 kQ rfl rfl bQ bQ) <| sq_end) fun a w hF hS => ?_
   refine wp_ifn hF rfl (fun hc3 => ?_) (fun hc3 => ?_)
   ·refine k0 ?_; intro K11 hK11
    refine reg hF hS (aQ rfl <| sq_end) fun a w hF hS => ?_
    refine hK11 _ _ ?_
    refine wp_ret ?_
    exact fn_ret (rs := [.tmp 4]) rfl hF hS (vs := [_]) ⟨rfl, trivial⟩ zQ zQ (Ls.same_ne [] hc3)
   ·refine wp_skip ?_
    refine hK9 _ _ ?_
    refine reg hF hS (mQ rfl <| pQ rfl rfl <| aQ rfl <| sq_end) fun a w hF hS => ?_
    refine ⟨(i + 1), ?_, ?_, hF.sub ⟨rfl, rfl, rfl, trivial⟩, ?_⟩
    ·(try dsimp only); omega
    ·refine ⟨by omega, by omega, Ls.same_step [] hi0 omQ hc1 hc3 htk⟩
    ·exact hS
  ·refine wp_exit ?_
   refine hK5 _ _ ?_
   refine regS hF hS (aQ rfl <| sq_end) fun a w hF hS => ?_
   refine wp_ret ?_
   exact fn_ret (rs := [.tmp 4]) rfl hF hS (vs := [_]) ⟨rfl, trivial⟩ zQ zQ (Ls.same_eq hc1 hc2 htk)
attribute [local irreducible] Wi.int Wi.bytes Wi.ints Wi.strs Wi.dgs Ls.encT
theorem ints_def (l : List Int) : Wi.int (l.length : Int) ++ l.flatMap Wi.int = Wi.ints l := by unfold Wi.ints; rfl
theorem strs_def (l : List (List UInt8)) : Wi.int (l.length : Int) ++ l.flatMap Wi.bytes = Wi.strs l := by unfold Wi.strs; rfl
theorem dgs_def (l : List (List UInt8)) : Wi.int (l.length : Int) ++ l.flatMap (fun x => x) = Wi.dgs l := by unfold Wi.dgs; rw [List.flatMap_id']
theorem wints_ct (v : Value) (l : List Int) (hl : l.length < 1048576) (w : World) (hb : Sl Go.Fw.encI (ph w) v l) : Ct Tryd.prog 45 [v] w (fun v zs hs => zs = [] ∧ hs = [.row v 5 1 (Wi.ints l).length ((Wi.ints l).map vb)]) := by
 refine fn_enter Tryd.func45 rfl Tryd.ntmps45 lB fun a hF hS => ?_
 have hil := Wi.int_len9 l.length
 have hbound : ∀ i, (Ls.encT Wi.int l i).length ≤ 9 + l.length * 9 := Ls.encT_len Wi.int l 9 (fun x _ => (Wi.int_len9 x).2)
 refine regS hF hS (aQ rfl <| sq_end) fun a w hF hS => ?_
 refine reglS fun K2 hK2 => ?_
 refine lQ hF hS (mQ rfl <| q0 (q_len_sl ty22 hb rfl) <| sq_end) fun a w hF hS => ?_
 refine eQ hF hS rfl (ef_call fn39 rfl (fun w hS => wint_ct _ w )) ?_
 rintro v1 _ _ a w ⟨_, _, rfl, rfl, rfl, rfl⟩ hF hS
 replace hS := nl0_1 hS
 refine lQ hF hS (aQ rfl <| sq_end) fun a w hF hS => ?_
 refine wpList_nil (hK2 _ _ ?_)
 refine k0 ?_; intro K3 hK3
 refine regS hF hS (mQ rfl <| q0 (q_len_sl ty22 hb rfl) <| mQ rfl <| sq_end) fun a w hF hS => ?_
 refine wp_block ?_
 obtain ⟨hs0, hhs0, hS⟩ := hS.oh
 refine wp_loopx (γ := Value × Int) (v1, 0) (fun (u, i) => [(3, u), (11, vi i)]) [(9, _), (10, _)] (fun (u, i) => (hs0.set 0 (.row u 5 1 (Ls.encT Wi.int l i.toNat).length ((Ls.encT Wi.int l i.toNat).map vb)))) (fun (u, i) => 0 ≤ i ∧ i ≤ l.length) (fun (u, i) => (l.length - i).toNat) (hF.sub ⟨rfl, rfl, rfl, rfl, trivial⟩) (by subst hhs0; dsimp only; rw [show (0 : Int).toNat = 0 from rfl, Ls.encT_0]; exact hS) (by exact ⟨Int.le_refl _, by omega⟩) ?_
 rintro ⟨u, i⟩ a w hfact hF hS
 subst hhs0; (try dsimp only at hfact hF hS)
 obtain ⟨hi0, hi1⟩ := hfact
 replace hS := nl0_1 hS
 have htl := hbound i.toNat
 refine regS hF hS (q0 (q_lti rfl rfl) <| sq_end) fun a w hF hS => ?_
 refine k0 ?_; intro K6 hK6
 refine wp_ifd hF rfl (fun hc1 => ?_) (fun hc1 => ?_)
 ·have hxl := Wi.int_len9 (l.getD i.toNat 0)
  have hxr := (hb.rep (i := i.toNat) (x := l.getD i.toNat 0) (Ls.getD_some 0 omQ)).2
  refine wp_skip ?_
  refine hK6 _ _ ?_
  refine k0 ?_; intro K7 hK7
  refine wp_block ?_
  refine regS hF hS (q0 (q_idx_sl ty22 ty3 hb rfl rfl omQ) <| q0 (q_ld_I ty3 hb zin0 rfl rfl omQ) <| aQ rfl <| sq_end) fun a w hF hS => ?_
  refine regl ?_
  refine lQ hF hS (mQ rfl <| mQ rfl <| sq_end) fun a w hF hS => ?_
  refine eQ hF hS rfl (ef_call fn39 rfl (fun w hS => wint_ct _ w )) ?_
  rintro v3 _ _ a w ⟨_, _, rfl, rfl, rfl, rfl⟩ hF hS
  replace hS := nl0_2 hS
  refine eQ hF hS rfl (ef_append ty39 ty5 1 rfl rfl rfl (src_row ty39 (k := 0) rfl oQ) bQ rfl deQ) ?_
  rintro v5 _ _ a w ⟨rfl, rfl⟩ hF hS
  replace hS := nl0_2 hS
  refine lQ hF hS (aQ rfl <| sq_end) fun a w hF hS => ?_
  refine wpList_nil (hK7 _ _ ?_)
  refine reg hF hS (pQ rfl rfl <| mQ rfl <| sq_end) fun a w hF hS => ?_
  replace hS := hS.keep zQ (sN1)
  refine ⟨(v5, i + 1), ?_, ?_, hF.sub ⟨rfl, rfl, rfl, rfl, trivial⟩, ?_⟩
  ·(try dsimp only); omega
  ·(try dsimp only); omega
  ·rw [← List.map_append, ← List.length_append, Ls.encT_step Wi.int 0 l i.toNat omQ, show i.toNat + 1 = (i + 1).toNat by omega] at hS
   exact hS
 ·obtain rfl : i = l.length := by omega
  rw [Int.toNat_natCast, Ls.encT_all, ints_def] at hS
  refine wp_exit ?_
  refine hK3 _ _ ?_
  refine regS hF hS (mQ rfl <| aQ rfl <| sq_end) fun a w hF hS => ?_
  refine wp_ret ?_
  exact fn_ret (rs := [.tmp 2]) rfl hF hS (vs := [_]) ⟨rfl, trivial⟩ zQ sQ ⟨rfl, rfl⟩
theorem rints_ct (v : Value) (l : List Int) (hl : l.length < 1048576) (w : World) (hb : Sl Go.Fw.encI (ph w) v l) : Ct Tryd.prog 67 [v] w (fun v zs hs => zs = [] ∧ hs = [.row v 5 1 (Wi.ints l).length ((Wi.ints l).map vb)]) := by
 refine fn_enter Tryd.func67 rfl Tryd.ntmps67 lB fun a hF hS => ?_
 have hil := Wi.int_len9 l.length
 have hbound : ∀ i, (Ls.encT Wi.int l i).length ≤ 9 + l.length * 9 := Ls.encT_len Wi.int l 9 (fun x _ => (Wi.int_len9 x).2)
 refine regS hF hS (aQ rfl <| sq_end) fun a w hF hS => ?_
 refine reglS fun K2 hK2 => ?_
 refine lQ hF hS (mQ rfl <| q0 (q_len_sl ty22 hb rfl) <| sq_end) fun a w hF hS => ?_
 refine eQ hF hS rfl (ef_call fn83 rfl (fun w hS => rint_ct _ omQ w )) ?_
 rintro v1 _ _ a w ⟨_, _, rfl, rfl, rfl, rfl⟩ hF hS
 replace hS := nl0_1 hS
 refine lQ hF hS (aQ rfl <| sq_end) fun a w hF hS => ?_
 refine wpList_nil (hK2 _ _ ?_)
 refine k0 ?_; intro K3 hK3
 refine regS hF hS (aQ rfl <| sq_end) fun a w hF hS => ?_
 refine wp_block ?_
 obtain ⟨hs0, hhs0, hS⟩ := hS.oh
 refine wp_loopx (γ := Value × Int) (v1, 0) (fun (u, i) => [(3, u), (4, vi i)]) [(0, _)] (fun (u, i) => (hs0.set 0 (.row u 5 1 (Ls.encT Wi.int l i.toNat).length ((Ls.encT Wi.int l i.toNat).map vb)))) (fun (u, i) => 0 ≤ i ∧ i ≤ l.length) (fun (u, i) => (l.length - i).toNat) (hF.sub ⟨rfl, rfl, rfl, trivial⟩) (by subst hhs0; dsimp only; rw [show (0 : Int).toNat = 0 from rfl, Ls.encT_0]; exact hS) (by exact ⟨Int.le_refl _, by omega⟩) ?_
 rintro ⟨u, i⟩ a w hfact hF hS
 subst hhs0; (try dsimp only at hfact hF hS)
 obtain ⟨hi0, hi1⟩ := hfact
 replace hS := nl0_1 hS
 have htl := hbound i.toNat
 refine k0 ?_; intro K5 hK5
 refine regS hF hS (mQ rfl <| mQ rfl <| q0 (q_len_sl ty22 hb rfl) <| q0 (q_lti rfl rfl) <| sq_end) fun a w hF hS => ?_
 refine wp_ifd hF rfl (fun hc1 => ?_) (fun hc1 => ?_)
 ·have hxl := Wi.int_len9 (l.getD i.toNat 0)
  have hxr := (hb.rep (i := i.toNat) (x := l.getD i.toNat 0) (Ls.getD_some 0 omQ)).2
  refine wp_skip ?_
  refine hK5 _ _ ?_
  refine k0 ?_; intro K7 hK7
  refine wp_block ?_
  refine regl ?_
  refine lQ hF hS (mQ rfl <| mQ rfl <| mQ rfl <| q0 (q_idx_sl ty22 ty3 hb rfl rfl omQ) <| q0 (q_ld_I ty3 hb zin0 rfl rfl omQ) <| sq_end) fun a w hF hS => ?_
  refine eQ hF hS rfl (ef_call fn83 rfl (fun w hS => rint_ct _ omQ w )) ?_
  rintro v3 _ _ a w ⟨_, _, rfl, rfl, rfl, rfl⟩ hF hS
  replace hS := nl0_2 hS
  refine eQ hF hS rfl (ef_append ty39 ty5 1 rfl rfl rfl (src_row ty39 (k := 0) rfl oQ) bQ rfl deQ) ?_
  rintro v5 _ _ a w ⟨rfl, rfl⟩ hF hS
  replace hS := nl0_2 hS
  refine lQ hF hS (aQ rfl <| sq_end) fun a w hF hS => ?_
  refine wpList_nil (hK7 _ _ ?_)
  refine reg hF hS (mQ rfl <| pQ rfl rfl <| aQ rfl <| sq_end) fun a w hF hS => ?_
  replace hS := hS.keep zQ (sN1)
  refine ⟨(v5, i + 1), ?_, ?_, hF.sub ⟨rfl, rfl, rfl, trivial⟩, ?_⟩
  ·(try dsimp only); omega
  ·(try dsimp only); omega
  ·rw [← List.map_append, ← List.length_append, Ls.encT_step Wi.int 0 l i.toNat omQ, show i.toNat + 1 = (i + 1).toNat by omega] at hS
   exact hS
 ·obtain rfl : i = l.length := by omega
  rw [Int.toNat_natCast, Ls.encT_all, ints_def] at hS
  refine wp_exit ?_
  refine hK3 _ _ ?_
  refine regS hF hS (mQ rfl <| aQ rfl <| sq_end) fun a w hF hS => ?_
  refine wp_ret ?_
  exact fn_ret (rs := [.tmp 2]) rfl hF hS (vs := [_]) ⟨rfl, trivial⟩ zQ sQ ⟨rfl, rfl⟩
theorem wstrs_ct (v : Value) (l : List (List UInt8)) (hl : l.length < 1048576) (hp : ∀ p ∈ l, p.length < 1048576) (w : World) (hb : Sl Go.Fw.encS (ph w) v l) : Ct Tryd.prog 46 [v] w (fun v zs hs => zs = [] ∧ hs = [.row v 5 1 (Wi.strs l).length ((Wi.strs l).map vb)]) := by
 refine fn_enter Tryd.func46 rfl Tryd.ntmps46 lB fun a hF hS => ?_
 have hil := Wi.int_len9 l.length
 have hbound : ∀ i, (Ls.encT Wi.bytes l i).length ≤ 9 + l.length * 1048585 := Ls.encT_len Wi.bytes l 1048585 (fun x hx => by have h1 := Wi.bytes_len x; have h2 := hp x hx; omega)
 refine regS hF hS (aQ rfl <| sq_end) fun a w hF hS => ?_
 refine reglS fun K2 hK2 => ?_
 refine lQ hF hS (mQ rfl <| q0 (q_len_sl ty47 hb rfl) <| sq_end) fun a w hF hS => ?_
 refine eQ hF hS rfl (ef_call fn39 rfl (fun w hS => wint_ct _ w )) ?_
 rintro v1 _ _ a w ⟨_, _, rfl, rfl, rfl, rfl⟩ hF hS
 replace hS := nl0_1 hS
 refine lQ hF hS (aQ rfl <| sq_end) fun a w hF hS => ?_
 refine wpList_nil (hK2 _ _ ?_)
 refine k0 ?_; intro K3 hK3
 refine regS hF hS (mQ rfl <| q0 (q_len_sl ty47 hb rfl) <| mQ rfl <| sq_end) fun a w hF hS => ?_
 refine wp_block ?_
 obtain ⟨hs0, hhs0, hS⟩ := hS.oh
 refine wp_loopx (γ := Value × Int) (v1, 0) (fun (u, i) => [(3, u), (11, vi i)]) [(9, _), (10, _)] (fun (u, i) => (hs0.set 0 (.row u 5 1 (Ls.encT Wi.bytes l i.toNat).length ((Ls.encT Wi.bytes l i.toNat).map vb)))) (fun (u, i) => 0 ≤ i ∧ i ≤ l.length) (fun (u, i) => (l.length - i).toNat) (hF.sub ⟨rfl, rfl, rfl, rfl, trivial⟩) (by subst hhs0; dsimp only; rw [show (0 : Int).toNat = 0 from rfl, Ls.encT_0]; exact hS) (by exact ⟨Int.le_refl _, by omega⟩) ?_
 rintro ⟨u, i⟩ a w hfact hF hS
 subst hhs0; (try dsimp only at hfact hF hS)
 obtain ⟨hi0, hi1⟩ := hfact
 replace hS := nl0_1 hS
 have htl := hbound i.toNat
 refine regS hF hS (q0 (q_lti rfl rfl) <| sq_end) fun a w hF hS => ?_
 refine k0 ?_; intro K6 hK6
 refine wp_ifd hF rfl (fun hc1 => ?_) (fun hc1 => ?_)
 ·have hpi := hp _ (Sha.getD_mem l i.toNat omQ)
  have hxl := Wi.bytes_len (l.getD i.toNat [])
  refine wp_skip ?_
  refine hK6 _ _ ?_
  refine k0 ?_; intro K7 hK7
  refine wp_block ?_
  refine regS hF hS (q0 (q_idx_sl ty47 ty9 hb rfl rfl omQ) <| q0 (q_ld_S ty9 hb zin0 rfl rfl omQ) <| aQ rfl <| sq_end) fun a w hF hS => ?_
  refine regl ?_
  refine lQ hF hS (mQ rfl <| mQ rfl <| sq_end) fun a w hF hS => ?_
  refine eQ hF hS rfl (ef_call fn74 rfl (fun w hS => wbytes_ct _ (by first | assumption | omega) w )) ?_
  rintro v3 _ _ a w ⟨_, _, rfl, rfl, rfl, rfl⟩ hF hS
  replace hS := nl0_2 hS
  refine eQ hF hS rfl (ef_append ty39 ty5 1 rfl rfl rfl (src_row ty39 (k := 0) rfl oQ) bQ rfl deQ) ?_
  rintro v5 _ _ a w ⟨rfl, rfl⟩ hF hS
  replace hS := nl0_2 hS
  refine lQ hF hS (aQ rfl <| sq_end) fun a w hF hS => ?_
  refine wpList_nil (hK7 _ _ ?_)
  refine reg hF hS (pQ rfl rfl <| mQ rfl <| sq_end) fun a w hF hS => ?_
  replace hS := hS.keep zQ (sN1)
  refine ⟨(v5, i + 1), ?_, ?_, hF.sub ⟨rfl, rfl, rfl, rfl, trivial⟩, ?_⟩
  ·(try dsimp only); omega
  ·(try dsimp only); omega
  ·rw [← List.map_append, ← List.length_append, Ls.encT_step Wi.bytes [] l i.toNat omQ, show i.toNat + 1 = (i + 1).toNat by omega] at hS
   exact hS
 ·obtain rfl : i = l.length := by omega
  rw [Int.toNat_natCast, Ls.encT_all, strs_def] at hS
  refine wp_exit ?_
  refine hK3 _ _ ?_
  refine regS hF hS (mQ rfl <| aQ rfl <| sq_end) fun a w hF hS => ?_
  refine wp_ret ?_
  exact fn_ret (rs := [.tmp 2]) rfl hF hS (vs := [_]) ⟨rfl, trivial⟩ zQ sQ ⟨rfl, rfl⟩
theorem rstrs_ct (v : Value) (l : List (List UInt8)) (hl : l.length < 1048576) (hp : ∀ p ∈ l, p.length < 1048576) (w : World) (hb : Sl Go.Fw.encS (ph w) v l) : Ct Tryd.prog 68 [v] w (fun v zs hs => zs = [] ∧ hs = [.row v 5 1 (Wi.strs l).length ((Wi.strs l).map vb)]) := by
 refine fn_enter Tryd.func68 rfl Tryd.ntmps68 lB fun a hF hS => ?_
 have hil := Wi.int_len9 l.length
 have hbound : ∀ i, (Ls.encT Wi.bytes l i).length ≤ 9 + l.length * 1048585 := Ls.encT_len Wi.bytes l 1048585 (fun x hx => by have h1 := Wi.bytes_len x; have h2 := hp x hx; omega)
 refine regS hF hS (aQ rfl <| sq_end) fun a w hF hS => ?_
 refine reglS fun K2 hK2 => ?_
 refine lQ hF hS (mQ rfl <| q0 (q_len_sl ty47 hb rfl) <| sq_end) fun a w hF hS => ?_
 refine eQ hF hS rfl (ef_call fn83 rfl (fun w hS => rint_ct _ omQ w )) ?_
 rintro v1 _ _ a w ⟨_, _, rfl, rfl, rfl, rfl⟩ hF hS
 replace hS := nl0_1 hS
 refine lQ hF hS (aQ rfl <| sq_end) fun a w hF hS => ?_
 refine wpList_nil (hK2 _ _ ?_)
 refine k0 ?_; intro K3 hK3
 refine regS hF hS (aQ rfl <| sq_end) fun a w hF hS => ?_
 refine wp_block ?_
 obtain ⟨hs0, hhs0, hS⟩ := hS.oh
 refine wp_loopx (γ := Value × Int) (v1, 0) (fun (u, i) => [(3, u), (4, vi i)]) [(0, _)] (fun (u, i) => (hs0.set 0 (.row u 5 1 (Ls.encT Wi.bytes l i.toNat).length ((Ls.encT Wi.bytes l i.toNat).map vb)))) (fun (u, i) => 0 ≤ i ∧ i ≤ l.length) (fun (u, i) => (l.length - i).toNat) (hF.sub ⟨rfl, rfl, rfl, trivial⟩) (by subst hhs0; dsimp only; rw [show (0 : Int).toNat = 0 from rfl, Ls.encT_0]; exact hS) (by exact ⟨Int.le_refl _, by omega⟩) ?_
 rintro ⟨u, i⟩ a w hfact hF hS
 subst hhs0; (try dsimp only at hfact hF hS)
 obtain ⟨hi0, hi1⟩ := hfact
 replace hS := nl0_1 hS
 have htl := hbound i.toNat
 refine k0 ?_; intro K5 hK5
 refine regS hF hS (mQ rfl <| mQ rfl <| q0 (q_len_sl ty47 hb rfl) <| q0 (q_lti rfl rfl) <| sq_end) fun a w hF hS => ?_
 refine wp_ifd hF rfl (fun hc1 => ?_) (fun hc1 => ?_)
 ·have hpi := hp _ (Sha.getD_mem l i.toNat omQ)
  have hxl := Wi.bytes_len (l.getD i.toNat [])
  refine wp_skip ?_
  refine hK5 _ _ ?_
  refine k0 ?_; intro K7 hK7
  refine wp_block ?_
  refine regl ?_
  refine lQ hF hS (mQ rfl <| mQ rfl <| mQ rfl <| q0 (q_idx_sl ty47 ty9 hb rfl rfl omQ) <| q0 (q_ld_S ty9 hb zin0 rfl rfl omQ) <| sq_end) fun a w hF hS => ?_
  refine eQ hF hS rfl (ef_call fn95 rfl (fun w hS => rbytes_ct _ (by first | with_reducible assumption | omega) w )) ?_
  rintro v3 _ _ a w ⟨_, _, rfl, rfl, rfl, rfl⟩ hF hS
  replace hS := nl0_2 hS
  refine eQ hF hS rfl (ef_append ty39 ty5 1 rfl rfl rfl (src_row ty39 (k := 0) rfl oQ) bQ rfl deQ) ?_
  rintro v5 _ _ a w ⟨rfl, rfl⟩ hF hS
  replace hS := nl0_2 hS
  refine lQ hF hS (aQ rfl <| sq_end) fun a w hF hS => ?_
  refine wpList_nil (hK7 _ _ ?_)
  refine reg hF hS (mQ rfl <| pQ rfl rfl <| aQ rfl <| sq_end) fun a w hF hS => ?_
  replace hS := hS.keep zQ (sN1)
  refine ⟨(v5, i + 1), ?_, ?_, hF.sub ⟨rfl, rfl, rfl, trivial⟩, ?_⟩
  ·(try dsimp only); omega
  ·(try dsimp only); omega
  ·rw [← List.map_append, ← List.length_append, Ls.encT_step Wi.bytes [] l i.toNat omQ, show i.toNat + 1 = (i + 1).toNat by omega] at hS
   exact hS
 ·obtain rfl : i = l.length := by omega
  rw [Int.toNat_natCast, Ls.encT_all, strs_def] at hS
  refine wp_exit ?_
  refine hK3 _ _ ?_
  refine regS hF hS (mQ rfl <| aQ rfl <| sq_end) fun a w hF hS => ?_
  refine wp_ret ?_
  exact fn_ret (rs := [.tmp 2]) rfl hF hS (vs := [_]) ⟨rfl, trivial⟩ zQ sQ ⟨rfl, rfl⟩
theorem wdigs_ct (v : Value) (l : List (List UInt8)) (hl : l.length < 1048576) (w : World) (hb : Sl (encA 16) (ph w) v l) : Ct Tryd.prog 66 [v] w (fun v zs hs => zs = [] ∧ hs = [.row v 5 1 (Wi.dgs l).length ((Wi.dgs l).map vb)]) := by
 refine fn_enter Tryd.func66 rfl Tryd.ntmps66 lB fun a hF hS => ?_
 have hil := Wi.int_len9 l.length
 have h16 : ∀ i, i < l.length → (l.getD i []).length = 16 := fun i hi => (hb.rep (i := i) (x := l.getD i []) (by simp [hi])).1
 have hbound : ∀ i, (Ls.encT (fun x => x) l i).length ≤ 9 + l.length * 16 := Ls.encT_len (fun x => x) l 16 (fun x hx => by obtain ⟨j, hj, rfl⟩ := List.mem_iff_getElem.1 hx; have := h16 j hj; rw [List.getD_eq_getElem?_getD, List.getElem?_eq_getElem hj] at this; exact Nat.le_of_eq this)
 refine regS hF hS (aQ rfl <| sq_end) fun a w hF hS => ?_
 refine reglS fun K2 hK2 => ?_
 refine lQ hF hS (mQ rfl <| q0 (q_len_sl ty48 hb rfl) <| sq_end) fun a w hF hS => ?_
 refine eQ hF hS rfl (ef_call fn39 rfl (fun w hS => wint_ct _ w )) ?_
 rintro v1 _ _ a w ⟨_, _, rfl, rfl, rfl, rfl⟩ hF hS
 replace hS := nl0_1 hS
 refine lQ hF hS (aQ rfl <| sq_end) fun a w hF hS => ?_
 refine wpList_nil (hK2 _ _ ?_)
 refine k0 ?_; intro K3 hK3
 refine regS hF hS (mQ rfl <| q0 (q_len_sl ty48 hb rfl) <| mQ rfl <| sq_end) fun a w hF hS => ?_
 refine wp_block ?_
 obtain ⟨hs0, hhs0, hS⟩ := hS.oh
 refine wp_loopx (γ := Value × Int) (v1, 0) (fun (u, i) => [(3, u), (11, vi i)]) [(9, _), (10, _)] (fun (u, i) => (hs0.set 0 (.row u 5 1 (Ls.encT (fun x => x) l i.toNat).length ((Ls.encT (fun x => x) l i.toNat).map vb)))) (fun (u, i) => 0 ≤ i ∧ i ≤ l.length) (fun (u, i) => (l.length - i).toNat) (hF.sub ⟨rfl, rfl, rfl, rfl, trivial⟩) (by subst hhs0; dsimp only; rw [show (0 : Int).toNat = 0 from rfl, Ls.encT_0]; exact hS) (by exact ⟨Int.le_refl _, by omega⟩) ?_
 rintro ⟨u, i⟩ a w hfact hF hS
 subst hhs0; (try dsimp only at hfact hF hS)
 obtain ⟨hi0, hi1⟩ := hfact
 replace hS := nl0_1 hS
 have htl := hbound i.toNat
 refine regS hF hS (q0 (q_lti rfl rfl) <| sq_end) fun a w hF hS => ?_
 refine k0 ?_; intro K6 hK6
 refine wp_ifd hF rfl (fun hc1 => ?_) (fun hc1 => ?_)
 ·have h16i := h16 i.toNat omQ
  refine wp_skip ?_
  refine hK6 _ _ ?_
  refine k0 ?_; intro K7 hK7
  refine wp_block ?_
  refine reglS fun K8 hK8 => ?_
  refine lQ hF hS (q0 (q_idx_sl ty48 ty29 hb rfl rfl omQ) <| q0 (q_ld_AB ty29 hb zin0 rfl rfl deQ omQ) <| sq_end) fun a w hF hS => ?_
  refine eQ hF hS rfl (ef_allocA ty29) ?_
  rintro _ _ _ a w ⟨b3, rfl, rfl, rfl⟩ hF hS
  rw [show List.replicate 16 (Value.int .u8 0) = (List.replicate 16 (0 : UInt8)).map vb from by rw [List.map_replicate] <;> rfl] at hS
  refine eQ hF hS rfl (ef_storeW ty29 0 rfl rfl rfl rfl bQ oQ bQ) ?_
  rintro _ _ _ a w ⟨rfl, rfl, rfl⟩ hF hS
  replace hS := nl0_2 hS
  refine wpList_nil (hK8 _ _ ?_)
  refine regl ?_
  refine lQ hF hS (mQ rfl <| q0 (q_sla ty29 ty5 rfl) <| sq_end) fun a w hF hS => ?_
  refine eQ hF hS rfl (ef_append ty39 ty5 1 rfl rfl rfl (src_blkM ty39 (k := 0) rfl oQ (by first | rfl | omega | (simp; omega))) bQ rfl deQ) ?_
  rintro v4 _ _ a w ⟨rfl, rfl⟩ hF hS
  replace hS := nl0_2 hS
  refine lQ hF hS (aQ rfl <| sq_end) fun a w hF hS => ?_
  refine wpList_nil (hK7 _ _ ?_)
  refine reg hF hS (pQ rfl rfl <| mQ rfl <| sq_end) fun a w hF hS => ?_
  replace hS := hS.keep zQ (sN1)
  refine ⟨(v4, i + 1), ?_, ?_, hF.sub ⟨rfl, rfl, rfl, rfl, trivial⟩, ?_⟩
  ·(try dsimp only); omega
  ·(try dsimp only); omega
  ·rw [show (Ls.encT (fun x => x) l i.toNat).length + 16 = (Ls.encT (fun x => x) l i.toNat).length + (l.getD i.toNat []).length by rw [h16i]] at hS
   rw [← List.map_append, ← List.length_append, Ls.encT_step (fun x => x) [] l i.toNat omQ, show i.toNat + 1 = (i + 1).toNat by omega] at hS
   exact hS
 ·obtain rfl : i = l.length := by omega
  rw [Int.toNat_natCast, Ls.encT_all, dgs_def] at hS
  refine wp_exit ?_
  refine hK3 _ _ ?_
  refine regS hF hS (mQ rfl <| aQ rfl <| sq_end) fun a w hF hS => ?_
  refine wp_ret ?_
  exact fn_ret (rs := [.tmp 2]) rfl hF hS (vs := [_]) ⟨rfl, trivial⟩ zQ sQ ⟨rfl, rfl⟩
end
section
attribute [local irreducible] Wi.int Wi.bytes Wi.ints Wi.strs Wi.dgs Ls.encT Wi.getInt Wi.valBE Wi.vj
theorem gi_nil : Wi.getInt [] = (0, 0, 3) := by unfold Wi.getInt; rfl
theorem cons_of {xs : List UInt8} (h : ¬ (xs.length : Int) = 0) : ∃ a t, xs = a :: t := by
 cases xs with
 | nil => simp at h
 | cons a t => exact ⟨a, t, rfl⟩
theorem nil_of {xs : List UInt8} (h : (xs.length : Int) = 0) : Wi.getInt xs = (0, 0, 3) := by
 have : xs = [] := List.eq_nil_of_length_eq_zero omQ
 rw [this]; exact gi_nil
theorem wgi_ct (v : Value) (xs : List UInt8) (w : World) (hb : Sl encB (ph w) v xs) : Ct Tryd.prog 111 [v] w (fun r _ _ => r = .tuple [vi (Wi.getInt xs).1, vi (Wi.getInt xs).2.1, vi (Wi.getInt xs).2.2].toArray) := by
 refine fn_enter Tryd.func111 rfl Tryd.ntmps111 lB fun a hF hS => ?_
 have hbl := hb.1
 refine regS hF hS (aQ rfl <| aQ rfl <| aQ rfl <| sq_end) fun a w hF hS => ?_
 refine k0 ?_; intro K2 hK2
 refine regS hF hS (mQ rfl <| q0 (q_len_sl ty39 hb rfl) <| q0 (q_eqi rfl rfl) <| sq_end) fun a w hF hS => ?_
 refine wp_ifd hF rfl (fun hc1 => ?_) (fun hc1 => ?_)
 ·refine k0 ?_; intro K4 hK4
  refine reg hF hS (aQ rfl <| aQ rfl <| aQ rfl <| sq_end) fun a w hF hS => ?_
  refine hK4 _ _ ?_
  refine wp_ret ?_
  exact fn_ret (rs := [.tmp 2, .tmp 3, .tmp 4]) rfl hF hS (vs := [_, _, _]) ⟨rfl, rfl, rfl, trivial⟩ zQ zQ (Wi.gi_eq (nil_of hc1))
 ·obtain ⟨h, t, rfl⟩ := cons_of hc1
  have hll : (h :: t).length = t.length + 1 := rfl
  refine wp_skip ?_
  refine hK2 _ _ ?_
  refine regS hF hS (aQ rfl <| sq_end) fun a w hF hS => ?_
  obtain ⟨hs0, hhs0, hS⟩ := hS.oh
  refine wp_cutx (γ := UInt8) (fun (fl : UInt8) => [(5, vb fl)]) [(0, _)] (fun (fl : UInt8) => hs0) (fun (fl : UInt8) => fl = Wi.flipOf h) (hF.sub ⟨rfl, trivial⟩) hS ?_ ?_
  ·subst hhs0
   refine regS hF hS (mQ rfl <| q0 (q_idx_sl ty39 ty5 hb rfl rfl omQ) <| q0 (q_ld_B ty5 hb zin0 rfl rfl omQ) <| q0 (q_ltb (q := 128) rfl rfl) <| sq_end) fun a w hF hS => ?_
   refine wp_ifd hF rfl (fun hc2 => ?_) (fun hc2 => ?_)
   ·refine reg hF hS (aQ rfl <| sq_end) fun a w hF hS => ?_
    refine ⟨(255), ?_, hF.sub ⟨rfl, rfl, trivial⟩, ?_⟩
    ·unfold Wi.flipOf; rw [if_pos (show h < 128 from hc2)]
    ·exact hS
   ·refine wp_skip ?_
    refine ⟨(0), ?_, hF.sub ⟨rfl, rfl, trivial⟩, ?_⟩
    ·unfold Wi.flipOf; rw [if_neg (show ¬ h < 128 from hc2)]
    ·exact hS
  rintro fl a w hfact hF hS
  subst hhs0; (try dsimp only at hfact hF hS)
  have hfl := hfact
  replace hS : St _ [] [] _ := hS
  have h88 := toNat8 ((h :: t).getD (Int.toNat 0) 0 ^^^ fl)
  refine k0 ?_; intro K7 hK7
  refine reg hF hS (mQ rfl <| q0 (q_idx_sl ty39 ty5 hb rfl rfl omQ) <| q0 (q_ld_B ty5 hb zin0 rfl rfl omQ) <| mQ rfl <| q0 (q_xorb rfl rfl) <| q0 (q_cv_bi ty5 ty3 rfl) <| dQ rfl rfl <| aQ rfl <| sq_end) fun a w hF hS => ?_
  have hge := Wi.flip_ge h
  rw [← hfl] at hge
  obtain ⟨K, hK⟩ : ∃ K : Nat, K = (h ^^^ fl).toNat - 128 := ⟨_, rfl⟩
  change Fr _ ((6, vi (((h ^^^ fl).toNat : Int) - 128)) :: _) a at hF
  rw [show (((h ^^^ fl).toNat : Int) - 128) = (K : Int) by omega] at hF
  refine hK7 _ _ ?_
  refine k0 ?_; intro K8 hK8
  refine wp_block ?_
  refine regS hF hS (mQ rfl <| q0 (q_gti rfl rfl) <| aQ rfl <| sq_end) fun a w hF hS => ?_
  refine wp_ifd hF rfl (fun hc3 => ?_) (fun hc3 => ?_)
  ·refine k0 ?_; intro K10 hK10
   refine reg hF hS (aQ rfl <| aQ rfl <| aQ rfl <| sq_end) fun a w hF hS => ?_
   refine hK10 _ _ ?_
   refine wp_ret ?_
   exact fn_ret (rs := [.tmp 2, .tmp 3, .tmp 4]) rfl hF hS (vs := [_, _, _]) ⟨rfl, rfl, rfl, trivial⟩ zQ zQ (Wi.gi_eq (Wi.gi_big hfl hK omQ))
  ·have h8 : ¬ 8 < K := by omega
   refine regS hF hS (mQ rfl <| q0 (q_len_sl ty39 hb rfl) <| mQ rfl <| q0 (q_lei rfl rfl) <| aQ rfl <| sq_end) fun a w hF hS => ?_
   refine wp_ifd hF rfl (fun hc4 => ?_) (fun hc4 => ?_)
   ·have hlt : t.length < K := by omega
    refine regS hF hS (aQ rfl <| aQ rfl <| aQ rfl <| sq_end) fun a w hF hS => ?_
    refine wp_ret ?_
    exact fn_ret (rs := [.tmp 2, .tmp 3, .tmp 4]) rfl hF hS (vs := [_, _, _]) ⟨rfl, rfl, rfl, trivial⟩ zQ zQ (Wi.gi_eq (Wi.gi_more hfl hK h8 hlt))
   ·have hlt : ¬ t.length < K := by omega
    refine reglS fun K13 hK13 => ?_
    refine lQ hF hS (mQ rfl <| q0 (q_gti rfl rfl) <| mQ rfl <| sq_end) fun a w hF hS => ?_
    refine wpl_and 2 35 6 hF hS rfl rfl rfl rfl rfl (fun hg => have hg := (by first | exact of_decide_eq_true hg | exact hg); sq_go 35 rfl rfl rfl (q_move rfl) <| sq_go 35 rfl rfl rfl (q_idx_sl ty39 ty5 hb rfl rfl omQ) <| sq_go 35 rfl rfl rfl (q_ld_B ty5 hb zin0 rfl rfl omQ) <| sq_go 35 rfl rfl rfl (q_move rfl) <| sq_go 35 rfl rfl rfl (q_xorb rfl rfl) <| sq_go 35 rfl rfl rfl (q_eqb (q := 0) rfl rfl) <| sq_end) rfl rfl fun a w hF hS => ?_
    refine lQ hF hS (aQ rfl <| sq_end) fun a w hF hS => ?_
    refine wpList_nil (hK13 _ _ ?_)
    refine wp_if hF rfl (fun hc5 => ?_) (fun hc5 => ?_)
    ·(try simp only [bS] at hc5)
     have h0 : 0 < K ∧ t.getD 0 0 ^^^ fl = 0 := ⟨by omega, hc5.2⟩
     refine regS hF hS (aQ rfl <| aQ rfl <| aQ rfl <| sq_end) fun a w hF hS => ?_
     refine wp_ret ?_
     exact fn_ret (rs := [.tmp 2, .tmp 3, .tmp 4]) rfl hF hS (vs := [_, _, _]) ⟨rfl, rfl, rfl, trivial⟩ zQ zQ (Wi.gi_eq (Wi.gi_zero hfl hK h8 hlt h0))
    ·(try simp only [bS] at hc5)
     have h0 : ¬ (0 < K ∧ t.getD 0 0 ^^^ fl = 0) := fun h9 => hc5.elim (fun h => h omQ) (fun h => h h9.2)
     refine wp_skip ?_
     refine hK8 _ _ ?_
     refine regS hF hS (aQ rfl <| sq_end) fun a w hF hS => ?_
     refine k0 ?_; intro K16 hK16
     refine k0 ?_; intro K17 hK17
     refine reg hF hS (mQ rfl <| mQ rfl <| pQ rfl rfl <| q0 (q_slsl_lo_hi ty39 ty5 hb rfl rfl rfl omQ) <| q0 (q_len_sl ty39 (Sl.cut hb omQ) rfl) <| mQ rfl <| sq_end) fun a w hF hS => ?_
     have hsl := Wi.take_K (h := h) (t := t) (K := K)
     have hsn : ((((h :: t).take ((K : Int) + 1).toNat).drop (1 : Int).toNat).length : Int) = K := by rw [hsl, List.length_take]; omega
     refine hK17 _ _ ?_
     refine wp_block ?_
     obtain ⟨hs0, hhs0, hS⟩ := hS.oh
     refine wp_loopx (γ := UInt64 × Int) (0, 0) (fun (m, j) => [(7, vq m), (48, vi j)]) [(5, _), (6, _), (46, _), (47, _)] (fun (m, j) => hs0) (fun (m, j) => 0 ≤ j ∧ j ≤ K ∧ m.toNat = Wi.vj t fl K j.toNat) (fun (m, j) => (K - j).toNat) (hF.sub ⟨rfl, rfl, rfl, rfl, rfl, rfl, trivial⟩) (by subst hhs0; exact hS) (by exact ⟨Int.le_refl _, by omega, by rw [show (0 : Int).toNat = 0 from rfl, Wi.vj_0]; rfl⟩) ?_
     rintro ⟨m, j⟩ a w hfact hF hS
     subst hhs0; (try dsimp only at hfact hF hS)
     obtain ⟨hj0, hj1, hmv⟩ := hfact
     replace hS : St _ [] [] _ := hS
     refine regS hF hS (q0 (q_lti rfl rfl) <| sq_end) fun a w hF hS => ?_
     refine k0 ?_; intro K19 hK19
     refine wp_ifd hF rfl (fun hc6 => ?_) (fun hc6 => ?_)
     ·refine wp_skip ?_
      refine hK19 _ _ ?_
      refine k0 ?_; intro K20 hK20
      refine wp_block ?_
      refine regS hF hS (q0 (q_idx_sl ty39 ty5 (Sl.cut hb omQ) rfl rfl omQ) <| q0 (q_ld_B ty5 (Sl.cut hb omQ) zin0 rfl rfl omQ) <| aQ rfl <| sq_end) fun a w hF hS => ?_
      refine reg hF hS (mQ rfl <| q0 (q_shlq rfl rfl omQ) <| mQ rfl <| mQ rfl <| q0 (q_xorb rfl rfl) <| q0 (q_cv_bq ty5 ty116 rfl) <| q0 (q_orq rfl rfl) <| aQ rfl <| sq_end) fun a w hF hS => ?_
      refine hK20 _ _ ?_
      refine reg hF hS (pQ rfl rfl <| mQ rfl <| sq_end) fun a w hF hS => ?_
      refine ⟨(_, j + 1), ?_, ?_, hF.sub ⟨rfl, rfl, rfl, rfl, rfl, rfl, trivial⟩, ?_⟩
      ·(try dsimp only); omega
      ·refine ⟨by omega, by omega, ?_⟩
       rw [Wi.shl8_or _ _ (by rw [hmv]; exact Wi.vj_lt t fl K j.toNat omQ), show (j + 1).toNat = j.toNat + 1 by omega, Wi.vj_succ t fl K j.toNat omQ omQ, hmv, hsl, List.getD_eq_getElem?_getD, List.getD_eq_getElem?_getD, List.getElem?_take, if_pos omQ]
      ·exact hS
     ·have hjK : j = (K : Int) := by omega
      have hmK : m.toNat = Wi.vj t fl K K := by rw [hmv, hjK, Int.toNat_natCast]
      clear hmv
      refine wp_exit ?_
      refine hK16 _ _ ?_
      refine k0 ?_; intro K22 hK22
      refine regS hF hS (mQ rfl <| q0 (q_shrq rfl rfl omQ) <| q0 (q_gtq (q := 0) rfl rfl) <| sq_end) fun a w hF hS => ?_
      refine wp_ifd hF rfl (fun hc7 => ?_) (fun hc7 => ?_)
      ·rw [Wi.top63] at hc7
       refine regS hF hS (aQ rfl <| aQ rfl <| aQ rfl <| sq_end) fun a w hF hS => ?_
       refine wp_ret ?_
       exact fn_ret (rs := [.tmp 2, .tmp 3, .tmp 4]) rfl hF hS (vs := [_, _, _]) ⟨rfl, rfl, rfl, trivial⟩ zQ zQ (Wi.gi_eq (Wi.gi_high hfl hK h8 hlt (by rw [← Wi.vj_K, ← hmK]; exact hc7)))
      ·rw [Wi.top63] at hc7
       have hmb := hc7
       have hfo := Wi.flipOf_or h
       rw [← hfl] at hfo
       refine wp_skip ?_
       refine hK22 _ _ ?_
       obtain ⟨hs0, hhs0, hS⟩ := hS.oh
       refine wp_cutx (γ := UInt64) (fun (m2 : UInt64) => [(7, vq m2)]) [(6, _)] (fun (m2 : UInt64) => hs0) (fun (m2 : UInt64) => sgn m2 = if fl = 0 then (m.toNat : Int) else -1 - (m.toNat : Int)) (hF.sub ⟨rfl, trivial⟩) hS ?_ ?_
       ·subst hhs0
        refine regS hF hS (mQ rfl <| q0 (q_gtb (q := 0) rfl rfl) <| sq_end) fun a w hF hS => ?_
        refine wp_ifd hF rfl (fun hc8 => ?_) (fun hc8 => ?_)
        ·refine reg hF hS (mQ rfl <| q0 (q_notq rfl) <| aQ rfl <| sq_end) fun a w hF hS => ?_
         refine ⟨(~~~m), ?_, hF.sub ⟨rfl, rfl, trivial⟩, ?_⟩
         ·rw [if_neg ((Wi.fl_pos hfo).1 hc8)]; exact Wi.sgn_not m hmb
         ·exact hS
        ·refine wp_skip ?_
         refine ⟨(m), ?_, hF.sub ⟨rfl, rfl, trivial⟩, ?_⟩
         ·rw [if_pos (Classical.not_not.1 (fun h9 => hc8 ((Wi.fl_pos hfo).2 h9)))]; exact Wi.sgn_small m hmb
         ·exact hS
       rintro m2 a w hfact hF hS
       subst hhs0; (try dsimp only at hfact hF hS)
       have hm2 := hfact
       replace hS : St _ [] [] _ := hS
       refine regS hF hS (mQ rfl <| q0 (q_cv_qi ty116 ty3 rfl) <| mQ rfl <| pQ rfl rfl <| aQ rfl <| aQ rfl <| aQ rfl <| sq_end) fun a w hF hS => ?_
       refine wp_ret ?_
       exact fn_ret (rs := [.tmp 2, .tmp 3, .tmp 4]) rfl hF hS (vs := [_, _, _]) ⟨rfl, rfl, rfl, trivial⟩ zQ zQ (by rw [hm2, hmK, Wi.vj_K]; exact Wi.gi_eq (Wi.gi_ok hfl hK h8 hlt h0 (by rw [← Wi.vj_K, ← hmK]; exact hmb)))
end
section
theorem fn41 : FnOk Tryd.prog 41 := fQ Tryd.func41
attribute [local irreducible] Wi.int Wi.bytes Wi.ints Wi.strs Wi.dgs Ls.encT Wi.getInt Wi.valBE Wi.vj
theorem rgi_ct (v : Value) (xs : List UInt8) (w : World) (hb : Sl encB (ph w) v xs) : Ct Tryd.prog 101 [v] w (fun r _ _ => r = .tuple [vi (Wi.getInt xs).1, vi (Wi.getInt xs).2.1, vi (Wi.getInt xs).2.2].toArray) := by
 refine fn_enter Tryd.func101 rfl Tryd.ntmps101 lB fun a hF hS => ?_
 have hbl := hb.1
 refine regS hF hS (aQ rfl <| aQ rfl <| aQ rfl <| sq_end) fun a w hF hS => ?_
 refine k0 ?_; intro K2 hK2
 refine regS hF hS (mQ rfl <| q0 (q_len_sl ty39 hb rfl) <| q0 (q_eqi rfl rfl) <| sq_end) fun a w hF hS => ?_
 refine wp_ifd hF rfl (fun hc1 => ?_) (fun hc1 => ?_)
 ·refine k0 ?_; intro K4 hK4
  refine reg hF hS (aQ rfl <| aQ rfl <| aQ rfl <| sq_end) fun a w hF hS => ?_
  refine hK4 _ _ ?_
  refine wp_ret ?_
  exact fn_ret (rs := [.tmp 2, .tmp 3, .tmp 4]) rfl hF hS (vs := [_, _, _]) ⟨rfl, rfl, rfl, trivial⟩ zQ zQ (Wi.gi_eq (nil_of hc1))
 ·obtain ⟨h, t, rfl⟩ := cons_of hc1
  have hll : (h :: t).length = t.length + 1 := rfl
  have hhf := Wi.head_flip h
  obtain ⟨fl, hfl⟩ : ∃ fl, fl = Wi.flipOf h := ⟨_, rfl⟩
  obtain ⟨K, hK⟩ : ∃ K, K = (h ^^^ fl).toNat - 128 := ⟨_, rfl⟩
  have hKa : h.toNat < 128 → K = 127 - h.toNat ∧ fl = 255 := fun h9 => by obtain ⟨a1, a2⟩ := hhf.1 h9; rw [a1] at hfl; subst hfl; exact ⟨by rw [hK, a2], rfl⟩
  have hKb : ¬ h.toNat < 128 → K = h.toNat - 128 ∧ fl = 0 := fun h9 => by obtain ⟨a1, a2⟩ := hhf.2 h9; rw [a1] at hfl; subst hfl; exact ⟨by rw [hK, a2], rfl⟩
  clear hhf
  have hh8 := h.toNat_lt
  refine wp_skip ?_
  refine hK2 _ _ ?_
  refine k0 ?_; intro K5 hK5
  refine reg hF hS (mQ rfl <| q0 (q_idx_sl ty39 ty5 hb rfl rfl omQ) <| q0 (q_ld_B ty5 hb zin0 rfl rfl omQ) <| q0 (q_cv_bi ty5 ty3 rfl) <| aQ rfl <| sq_end) fun a w hF hS => ?_
  change Fr _ ((5, vi (h.toNat : Int)) :: _) a at hF
  refine hK5 _ _ ?_
  refine k0 ?_; intro K6 hK6
  refine reglS fun K7 hK7 => ?_
  refine lQ hF hS (mQ rfl <| q0 (q_lti rfl rfl) <| mQ rfl <| sq_end) fun a w hF hS => ?_
  refine wpl_or 2 20 2 hF hS rfl rfl rfl rfl rfl (fun hg => have hg := (by first | exact of_decide_eq_false hg | exact hg); sq_go 20 rfl rfl rfl (q_move rfl) <| sq_go 20 rfl rfl rfl (q_gti rfl rfl) <| sq_end) rfl rfl fun a w hF hS => ?_
  refine wpList_nil (hK7 _ _ ?_)
  refine wp_if hF rfl (fun hc2 => ?_) (fun hc2 => ?_)
  ·(try simp only [bS] at hc2)
   have h8 : 8 < K := by
    by_cases h9 : h.toNat < 128
    ·have := (hKa h9).1; omega
    ·have := (hKb h9).1; omega
   refine regS hF hS (aQ rfl <| aQ rfl <| aQ rfl <| sq_end) fun a w hF hS => ?_
   refine wp_ret ?_
   exact fn_ret (rs := [.tmp 2, .tmp 3, .tmp 4]) rfl hF hS (vs := [_, _, _]) ⟨rfl, rfl, rfl, trivial⟩ zQ zQ (Wi.gi_eq (Wi.gi_big hfl hK h8))
  ·(try simp only [bS] at hc2)
   have h8 : ¬ 8 < K := by
    by_cases h9 : h.toNat < 128
    ·have := (hKa h9).1; omega
    ·have := (hKb h9).1; omega
   refine wp_skip ?_
   refine hK6 _ _ ?_
   refine regS hF hS (mQ rfl <| dQ rfl rfl <| aQ rfl <| sq_end) fun a w hF hS => ?_
   obtain ⟨hs0, hhs0, hS⟩ := hS.oh
   refine wp_cutx (γ := Int) (fun (k : Int) => [(6, vi k)]) [(0, _), (5, _)] (fun (k : Int) => hs0) (fun (k : Int) => k = (K : Int)) (hF.sub ⟨rfl, rfl, trivial⟩) hS ?_ ?_
   ·subst hhs0
    refine regS hF hS (mQ rfl <| q0 (q_lti rfl rfl) <| sq_end) fun a w hF hS => ?_
    refine wp_ifd hF rfl (fun hc3 => ?_) (fun hc3 => ?_)
    ·refine reg hF hS (mQ rfl <| dQ rfl rfl <| aQ rfl <| sq_end) fun a w hF hS => ?_
     refine ⟨(127 - (h.toNat : Int)), ?_, hF.sub ⟨rfl, rfl, rfl, trivial⟩, ?_⟩
     ·have := (hKa omQ).1
      omega
     ·exact hS
    ·refine wp_skip ?_
     refine ⟨((h.toNat : Int) - 128), ?_, hF.sub ⟨rfl, rfl, rfl, trivial⟩, ?_⟩
     ·have := (hKb omQ).1
      omega
     ·exact hS
   rintro k a w hfact hF hS
   subst hhs0; (try dsimp only at hfact hF hS)
   have hk := hfact
   replace hS : St _ [] [] _ := hS
   subst hk
   refine k0 ?_; intro K11 hK11
   refine regS hF hS (mQ rfl <| q0 (q_len_sl ty39 hb rfl) <| mQ rfl <| pQ rfl rfl <| q0 (q_lti rfl rfl) <| sq_end) fun a w hF hS => ?_
   refine wp_ifd hF rfl (fun hc4 => ?_) (fun hc4 => ?_)
   ·have hlt : t.length < K := by omega
    refine regS hF hS (aQ rfl <| aQ rfl <| aQ rfl <| sq_end) fun a w hF hS => ?_
    refine wp_ret ?_
    exact fn_ret (rs := [.tmp 2, .tmp 3, .tmp 4]) rfl hF hS (vs := [_, _, _]) ⟨rfl, rfl, rfl, trivial⟩ zQ zQ (Wi.gi_eq (Wi.gi_more hfl hK h8 hlt))
   ·have hlt : ¬ t.length < K := by omega
    refine wp_skip ?_
    refine hK11 _ _ ?_
    refine regS hF hS (aQ rfl <| sq_end) fun a w hF hS => ?_
    refine k0 ?_; intro K15 hK15
    refine regS hF hS (aQ rfl <| sq_end) fun a w hF hS => ?_
    refine wp_block ?_
    obtain ⟨hs0, hhs0, hS⟩ := hS.oh
    refine wp_loopx (γ := Int × Int) (0, 1) (fun (m, i) => [(7, vi m), (8, vi i)]) [(0, _), (5, _), (6, _)] (fun (m, i) => hs0) (fun (m, i) => 1 ≤ i ∧ i ≤ (K : Int) + 1 ∧ m = (Wi.vj t fl K (i - 1).toNat : Int) ∧ m ≤ 9223372036854775807) (fun (m, i) => ((K : Int) + 1 - i).toNat) (hF.sub ⟨rfl, rfl, rfl, rfl, rfl, trivial⟩) (by subst hhs0; exact hS) (by exact ⟨Int.le_refl _, by omega, by rw [show ((1 : Int) - 1).toNat = 0 from rfl, Wi.vj_0]; rfl, by omega⟩) ?_
    rintro ⟨m, i⟩ a w hfact hF hS
    subst hhs0; (try dsimp only at hfact hF hS)
    obtain ⟨hi0, hi1, hmv, hmx⟩ := hfact
    replace hS : St _ [] [] _ := hS
    have hm0 : 0 ≤ m := by omega
    refine k0 ?_; intro K17 hK17
    refine regS hF hS (mQ rfl <| mQ rfl <| q0 (q_lei rfl rfl) <| sq_end) fun a w hF hS => ?_
    refine wp_ifd hF rfl (fun hc5 => ?_) (fun hc5 => ?_)
    ·refine wp_skip ?_
     refine hK17 _ _ ?_
     refine k0 ?_; intro K19 hK19
     refine wp_block ?_
     refine k0 ?_; intro K20 hK20
     refine reg hF hS (mQ rfl <| mQ rfl <| q0 (q_idx_sl ty39 ty5 hb rfl rfl omQ) <| q0 (q_ld_B ty5 hb zin0 rfl rfl omQ) <| q0 (q_cv_bi ty5 ty3 rfl) <| aQ rfl <| sq_end) fun a w hF hS => ?_
     have hx8 := toNat8 ((h :: t).getD i.toNat 0)
     refine hK20 _ _ ?_
     obtain ⟨hs0, hhs0, hS⟩ := hS.oh
     refine wp_cutx (γ := Int) (fun (dd : Int) => [(9, vi dd)]) [(0, _), (5, _), (6, _), (7, _), (8, _)] (fun (dd : Int) => hs0) (fun (dd : Int) => dd = (((h :: t).getD i.toNat 0 ^^^ fl).toNat : Int)) (hF.sub ⟨rfl, rfl, rfl, rfl, rfl, trivial⟩) hS ?_ ?_
     ·subst hhs0
      refine regS hF hS (mQ rfl <| q0 (q_lti rfl rfl) <| sq_end) fun a w hF hS => ?_
      refine wp_ifd hF rfl (fun hc6 => ?_) (fun hc6 => ?_)
      ·refine reg hF hS (mQ rfl <| dQ rfl rfl <| aQ rfl <| sq_end) fun a w hF hS => ?_
       refine ⟨(255 - (((h :: t).getD i.toNat 0).toNat : Int)), ?_, hF.sub ⟨rfl, rfl, rfl, rfl, rfl, rfl, trivial⟩, ?_⟩
       ·rw [(hKa omQ).2]; exact Wi.sub_flip _
       ·exact hS
      ·refine wp_skip ?_
       refine ⟨((((h :: t).getD i.toNat 0).toNat : Int)), ?_, hF.sub ⟨rfl, rfl, rfl, rfl, rfl, rfl, trivial⟩, ?_⟩
       ·rw [(hKb omQ).2, UInt8.xor_zero]
       ·exact hS
     rintro dd a w hfact hF hS
     subst hhs0; (try dsimp only at hfact hF hS)
     have hdd := hfact
     replace hS : St _ [] [] _ := hS
     have hd8 := toNat8 ((h :: t).getD i.toNat 0 ^^^ fl)
     refine k0 ?_; intro K22 hK22
     refine regS hF hS (mQ rfl <| q0 (q_gti rfl rfl) <| sq_end) fun a w hF hS => ?_
     refine wp_ifd hF rfl (fun hc7 => ?_) (fun hc7 => ?_)
     ·have hmm := Wi.vj_mono t fl K (i - 1).toNat omQ omQ
      have hmb : 9223372036854775808 ≤ Wi.vj t fl K K := by omega
      refine regS hF hS (aQ rfl <| aQ rfl <| aQ rfl <| sq_end) fun a w hF hS => ?_
      refine wp_ret ?_
      exact fn_ret (rs := [.tmp 2, .tmp 3, .tmp 4]) rfl hF hS (vs := [_, _, _]) ⟨rfl, rfl, rfl, trivial⟩ zQ zQ (Wi.gi_eq (Wi.gi_high hfl hK h8 hlt (by rw [← Wi.vj_K]; exact hmb)))
     ·refine wp_skip ?_
      refine hK22 _ _ ?_
      refine reg hF hS (mQ rfl <| q0 (q_muli rfl rfl omQ) <| mQ rfl <| pQ rfl rfl <| aQ rfl <| sq_end) fun a w hF hS => ?_
      refine hK19 _ _ ?_
      refine reg hF hS (mQ rfl <| pQ rfl rfl <| aQ rfl <| sq_end) fun a w hF hS => ?_
      refine ⟨(256 * m + dd, i + 1), ?_, ?_, hF.sub ⟨rfl, rfl, rfl, rfl, rfl, trivial⟩, ?_⟩
      ·(try dsimp only); omega
      ·refine ⟨by omega, by omega, ?_, by omega⟩
       have hvs := Wi.vj_succ t fl K (i - 1).toNat omQ omQ
       rw [show (i + 1 - 1).toNat = (i - 1).toNat + 1 by omega, hvs]
       obtain ⟨j, hj⟩ : ∃ j : Nat, i = (j : Int) + 1 := ⟨(i - 1).toNat, by omega⟩
       subst hj
       rw [show ((j : Int) + 1).toNat = j + 1 by omega, List.getD_cons_succ] at hdd
       rw [show ((j : Int) + 1 - 1).toNat = j by omega] at hmv ⊢
       omega
      ·exact hS
    ·have hiK : i = (K : Int) + 1 := by omega
     have hmK : m = (Wi.vj t fl K K : Int) := by rw [hmv, hiK, show ((K : Int) + 1 - 1).toNat = K by omega]
     clear hmv
     have hmb : ¬ 9223372036854775808 ≤ Wi.vj t fl K K := by omega
     refine wp_exit ?_
     refine hK15 _ _ ?_
     refine regS hF hS (mQ rfl <| aQ rfl <| sq_end) fun a w hF hS => ?_
     obtain ⟨hs0, hhs0, hS⟩ := hS.oh
     refine wp_cutx (γ := Int) (fun (nn : Int) => [(10, vi nn)]) [(0, _), (6, _)] (fun (nn : Int) => hs0) (fun (nn : Int) => nn = if fl = 0 then m else -1 - m) (hF.sub ⟨rfl, rfl, trivial⟩) hS ?_ ?_
     ·subst hhs0
      refine regS hF hS (mQ rfl <| q0 (q_lti rfl rfl) <| sq_end) fun a w hF hS => ?_
      refine wp_ifd hF rfl (fun hc8 => ?_) (fun hc8 => ?_)
      ·refine reg hF hS (mQ rfl <| dQ rfl rfl <| aQ rfl <| sq_end) fun a w hF hS => ?_
       refine ⟨(-1 - m), ?_, hF.sub ⟨rfl, rfl, rfl, trivial⟩, ?_⟩
       ·rw [(hKa omQ).2, if_neg deQ]
       ·exact hS
      ·refine wp_skip ?_
       refine ⟨(m), ?_, hF.sub ⟨rfl, rfl, rfl, trivial⟩, ?_⟩
       ·rw [(hKb omQ).2, if_pos rfl]
       ·exact hS
     rintro nn a w hfact hF hS
     subst hhs0; (try dsimp only at hfact hF hS)
     have hnn := hfact
     replace hS : St _ [] [] _ := hS
     have hnr : -9223372036854775808 ≤ nn ∧ nn ≤ 9223372036854775807 := by rw [hnn]; split <;> omega
     have hil := Wi.int_len9 nn
     refine k0 ?_; intro K27 hK27
     refine k0 ?_; intro K28 hK28
     revert hS; revert hF; apply regJ (J := J1 (α0 := Value) 71 _ _ _ _ _) #[false, false, false, false, false, false, false, false] 8 mixed rfl rfl
     ·intro w hF hS
      refine tQ 0 rfl hF (hS.keep sQ zQ) (q_move rfl) fun a hF => ?_
      refine tQ 2 rfl hF (hS.keep sQ zQ) (q_move rfl) fun a hF => ?_
      refine tQ 3 rfl hF (hS.keep sQ zQ) (q_move rfl) fun a hF => ?_
      refine tQ 4 rfl hF (hS.keep sQ zQ) (q_addi rfl rfl omQ) fun a hF => ?_
      refine tQ 5 rfl hF (hS.keep sQ zQ) (q_slsl_hi ty39 ty5 hb rfl rfl omQ) fun a hF => ?_
      refine gQ 1 rfl rfl hF hS rfl (ef_call fn83 rfl (fun w hS => rint_ct _ omQ w )) ?_
      rintro v_24_1 _ _ a w ⟨_, _, rfl, rfl, rfl, rfl⟩ hF hS
      refine ⟨⟨.inr hS.k0, .inr hS.k0, .inr hS.k0, .inr hS.k0, iQ, trivial⟩, ?_⟩
      refine gQ 6 rfl rfl hF hS rfl (ef_qt (q_call fn41 rfl (fun w hS => same_ct _ _ _ _ w (own_slV (hS.ow 0 rfl) (by first | assumption | (simp; done)) (by first | rfl | (simp; done) | (simp; omega) | omega) (by first | omega | (simp; omega))) (Sl.mono (hS.le zin0) (Sl.cut hb omQ))) hI)) ?_
      rintro _ _ _ a w ⟨rfl, rfl, rfl⟩ hF hS
      refine ⟨⟨iQ, iQ, .inr hS.k0, iQ, iQ, trivial⟩, ?_⟩
      refine tQ 7 rfl hF (hS.keep sQ zQ) (q_not rfl) fun a hF => ?_
      exact goW_done kQ (j1_mk v_24_1 (trivial) (hF.sub (L' := [(6, _), (10, _), (67, _)]) ⟨rfl, rfl, rfl, trivial⟩) hS)
     rintro a w ⟨v_24_1, -, hF, hS⟩
     (try dsimp only at hF hS)
     refine hK28 _ _ ?_
     refine wp_ifn hF rfl (fun hc9 => ?_) (fun hc9 => ?_)
     ·rw [List.drop_zero, show ((K : Int) + 1).toNat = K + 1 by omega] at hc9
      refine regS hF hS (aQ rfl <| aQ rfl <| aQ rfl <| sq_end) fun a w hF hS => ?_
      refine wp_ret ?_
      exact fn_ret (rs := [.tmp 2, .tmp 3, .tmp 4]) rfl hF hS (vs := [_, _, _]) ⟨rfl, rfl, rfl, trivial⟩ zQ zQ (Wi.gi_eq (Wi.ref_bad hfl hK h8 hlt hmb (by rw [hnn, hmK]) hc9))
     ·rw [List.drop_zero, show ((K : Int) + 1).toNat = K + 1 by omega] at hc9
      refine wp_skip ?_
      refine hK27 _ _ ?_
      refine regS hF hS (mQ rfl <| mQ rfl <| pQ rfl rfl <| aQ rfl <| aQ rfl <| aQ rfl <| sq_end) fun a w hF hS => ?_
      refine wp_ret ?_
      exact fn_ret (rs := [.tmp 2, .tmp 3, .tmp 4]) rfl hF hS (vs := [_, _, _]) ⟨rfl, rfl, rfl, trivial⟩ zQ zQ (Wi.gi_eq (Wi.ref_ok hnr omQ hc9))
end
section
theorem fn96 : FnOk Tryd.prog 96 := fQ Tryd.func96
theorem fn100 : FnOk Tryd.prog 100 := fQ Tryd.func100
theorem fn101 : FnOk Tryd.prog 101 := fQ Tryd.func101
theorem fn111 : FnOk Tryd.prog 111 := fQ Tryd.func111
attribute [local irreducible] Wi.int Wi.bytes Wi.ints Wi.strs Wi.dgs Ls.encT Wi.getInt Wi.valBE Wi.vj Wi.cnt Wi.wcnt Wi.getBytes
theorem wcount_ct (v : Value) (xs : List UInt8) (s : Nat) (hs : 0 < s ∧ s ≤ 16) (w : World) (hb : Sl encB (ph w) v xs) : Ct Tryd.prog 96 [v, vi (s : Int)] w (fun r _ _ => r = .tuple [vi (Wi.wcnt s xs).1, vi (Wi.wcnt s xs).2.1, vi (Wi.wcnt s xs).2.2].toArray) := by
 refine fn_enter Tryd.func96 rfl Tryd.ntmps96 lB fun a hF hS => ?_
 have hbl := hb.1
 have hw1 := Wi.wcnt_1 s xs
 refine regS hF hS (aQ rfl <| aQ rfl <| aQ rfl <| sq_end) fun a w hF hS => ?_
 refine regS hF hS (mQ rfl <| q0 (q_call fn111 rfl (fun w hS => wgi_ct _ _ w (Sl.mono (hS.le zin0) hb)) hI) <| mQ rfl <| q0 (q_extract rfl rfl) <| q0 (q_extract rfl rfl) <| q0 (q_extract rfl rfl) <| aQ rfl <| aQ rfl <| aQ rfl <| sq_end) fun a w hF hS => ?_
 obtain ⟨hs0, hhs0, hS⟩ := hS.oh
 refine wp_cutx (γ := Int) (fun (e : Int) => [(6, vi e)]) [(4, _), (5, _)] (fun (e : Int) => hs0) (fun (e : Int) => e = (Wi.wcnt s xs).2.2) (hF.sub ⟨rfl, rfl, trivial⟩) hS ?_ ?_
 ·subst hhs0
  refine wp_block ?_
  refine regS hF hS (mQ rfl <| q0 (q_nei rfl rfl) <| aQ rfl <| sq_end) fun a w hF hS => ?_
  refine wp_ifn hF rfl (fun hc1 => ?_) (fun hc1 => ?_)
  ·refine wp_skip ?_
   refine ⟨((Wi.getInt xs).2.2), ?_, hF.sub ⟨rfl, rfl, rfl, trivial⟩, ?_⟩
   ·unfold Wi.wcnt; rw [if_pos hc1]
   ·exact hS
  ·have hgp := Wi.getInt_pos (b := xs) omQ
   refine regS hF hS (mQ rfl <| q0 (q_lti rfl rfl) <| aQ rfl <| sq_end) fun a w hF hS => ?_
   refine wp_ifd hF rfl (fun hc2 => ?_) (fun hc2 => ?_)
   ·refine reg hF hS (aQ rfl <| sq_end) fun a w hF hS => ?_
    refine ⟨(2), ?_, hF.sub ⟨rfl, rfl, rfl, trivial⟩, ?_⟩
    ·unfold Wi.wcnt; rw [if_neg omQ, if_pos hc2]
    ·exact hS
   ·refine k0 ?_; intro K5 hK5
    refine reg hF hS (mQ rfl <| mQ rfl <| q0 (q_len_sl ty39 hb rfl) <| mQ rfl <| dQ rfl rfl <| mQ rfl <| q0 (q_quoi rfl rfl omQ) <| q0 (q_gti rfl rfl) <| aQ rfl <| sq_end) fun a w hF hS => ?_
    refine hK5 _ _ ?_
    refine wp_ifd hF rfl (fun hc3 => ?_) (fun hc3 => ?_)
    ·refine reg hF hS (aQ rfl <| sq_end) fun a w hF hS => ?_
     refine ⟨(3), ?_, hF.sub ⟨rfl, rfl, rfl, trivial⟩, ?_⟩
     ·unfold Wi.wcnt; rw [if_neg omQ, if_neg hc2, if_pos hc3]
     ·exact hS
    ·refine wp_skip ?_
     refine ⟨((Wi.getInt xs).2.2), ?_, hF.sub ⟨rfl, rfl, rfl, trivial⟩, ?_⟩
     ·unfold Wi.wcnt; rw [if_neg omQ, if_neg hc2, if_neg hc3]
     ·exact hS
 rintro e a w hfact hF hS
 subst hhs0; (try dsimp only at hfact hF hS)
 have he := hfact
 replace hS : St _ [] [] _ := hS
 refine regS hF hS (mQ rfl <| mQ rfl <| mQ rfl <| aQ rfl <| aQ rfl <| aQ rfl <| sq_end) fun a w hF hS => ?_
 refine wp_ret ?_
 exact fn_ret (rs := [.tmp 4, .tmp 5, .tmp 6]) rfl hF hS (vs := [_, _, _]) ⟨rfl, rfl, rfl, trivial⟩ zQ zQ (Wi.wc_eq he hw1.1 hw1.2)
theorem rcount_ct (v : Value) (xs : List UInt8) (s : Nat) (hs : 0 < s ∧ s ≤ 16) (w : World) (hb : Sl encB (ph w) v xs) : Ct Tryd.prog 100 [v, vi (s : Int)] w (fun r _ _ => r = .tuple [vi (Wi.cnt s xs).1, vi (Wi.cnt s xs).2.1, vi (Wi.cnt s xs).2.2].toArray) := by
 refine fn_enter Tryd.func100 rfl Tryd.ntmps100 lB fun a hF hS => ?_
 have hbl := hb.1
 refine regS hF hS (aQ rfl <| aQ rfl <| aQ rfl <| sq_end) fun a w hF hS => ?_
 refine regS hF hS (mQ rfl <| q0 (q_call fn101 rfl (fun w hS => rgi_ct _ _ w (Sl.mono (hS.le zin0) hb)) hI) <| mQ rfl <| q0 (q_extract rfl rfl) <| q0 (q_extract rfl rfl) <| q0 (q_extract rfl rfl) <| aQ rfl <| aQ rfl <| aQ rfl <| sq_end) fun a w hF hS => ?_
 refine k0 ?_; intro K3 hK3
 refine regS hF hS (mQ rfl <| q0 (q_nei rfl rfl) <| sq_end) fun a w hF hS => ?_
 refine wp_ifn hF rfl (fun hc1 => ?_) (fun hc1 => ?_)
 ·refine k0 ?_; intro K5 hK5
  refine reg hF hS (mQ rfl <| aQ rfl <| aQ rfl <| aQ rfl <| sq_end) fun a w hF hS => ?_
  refine hK5 _ _ ?_
  refine wp_ret ?_
  exact fn_ret (rs := [.tmp 4, .tmp 5, .tmp 6]) rfl hF hS (vs := [_, _, _]) ⟨rfl, rfl, rfl, trivial⟩ zQ zQ (Wi.cn_eq (Wi.cn_err hc1))
 ·have hc1 : (Wi.getInt xs).2.2 = 0 := by omega
  have hgp := Wi.getInt_pos hc1
  refine wp_skip ?_
  refine hK3 _ _ ?_
  refine k0 ?_; intro K6 hK6
  refine regS hF hS (mQ rfl <| q0 (q_lti rfl rfl) <| sq_end) fun a w hF hS => ?_
  refine wp_ifd hF rfl (fun hc2 => ?_) (fun hc2 => ?_)
  ·refine k0 ?_; intro K8 hK8
   refine reg hF hS (aQ rfl <| aQ rfl <| aQ rfl <| sq_end) fun a w hF hS => ?_
   refine hK8 _ _ ?_
   refine wp_ret ?_
   exact fn_ret (rs := [.tmp 4, .tmp 5, .tmp 6]) rfl hF hS (vs := [_, _, _]) ⟨rfl, rfl, rfl, trivial⟩ zQ zQ (Wi.cn_eq (Wi.cn_neg hc1 hc2))
  ·refine wp_skip ?_
   refine hK6 _ _ ?_
   refine k0 ?_; intro K9 hK9
   refine reglS fun K10 hK10 => ?_
   refine lQ hF hS (mQ rfl <| mQ rfl <| q0 (q_len_sl ty39 hb rfl) <| q0 (q_gti rfl rfl) <| mQ rfl <| sq_end) fun a w hF hS => ?_
   refine wpl_or 4 25 8 hF hS rfl rfl rfl rfl rfl (fun hg => have hg := (by first | exact of_decide_eq_false hg | exact hg); sq_go 25 rfl rfl rfl (q_move rfl) <| sq_go 25 rfl rfl rfl (q_move rfl) <| sq_go 25 rfl rfl rfl (q_muli rfl rfl (by have h1 : (Wi.getInt xs).1 * (s : Int) ≤ (Wi.getInt xs).1 * 16 := Int.mul_le_mul_of_nonneg_left omQ omQ; have h2 : 0 ≤ (Wi.getInt xs).1 * (s : Int) := Int.mul_nonneg omQ omQ; omega)) <| sq_go 25 rfl rfl rfl (q_move rfl) <| sq_go 25 rfl rfl rfl (q_len_sl ty39 hb rfl) <| sq_go 25 rfl rfl rfl (q_move rfl) <| sq_go 25 rfl rfl rfl (q_subi rfl rfl omQ) <| sq_go 25 rfl rfl rfl (q_gti rfl rfl) <| sq_end) rfl rfl fun a w hF hS => ?_
   refine wpList_nil (hK10 _ _ ?_)
   refine wp_if hF rfl (fun hc3 => ?_) (fun hc3 => ?_)
   ·(try simp only [bS] at hc3)
    refine regS hF hS (aQ rfl <| aQ rfl <| aQ rfl <| sq_end) fun a w hF hS => ?_
    refine wp_ret ?_
    exact fn_ret (rs := [.tmp 4, .tmp 5, .tmp 6]) rfl hF hS (vs := [_, _, _]) ⟨rfl, rfl, rfl, trivial⟩ zQ zQ (Wi.cn_eq (Wi.cn_more hs.1 hc1 hc2 hc3))
   ·(try simp only [bS] at hc3)
    refine wp_skip ?_
    refine hK9 _ _ ?_
    refine regS hF hS (mQ rfl <| mQ rfl <| aQ rfl <| aQ rfl <| aQ rfl <| sq_end) fun a w hF hS => ?_
    refine wp_ret ?_
    exact fn_ret (rs := [.tmp 4, .tmp 5, .tmp 6]) rfl hF hS (vs := [_, _, _]) ⟨rfl, rfl, rfl, trivial⟩ zQ zQ (Wi.cn_eq (Wi.cn_ok hc1 hc2 hc3))
theorem wgb_ct (v : Value) (xs : List UInt8)  (w : World) (hb : Sl encB (ph w) v xs) : Ct Tryd.prog 98 [v] w (fun r _ _ => r = .tuple [vs (Wi.getBytes xs).1, vi (Wi.getBytes xs).2.1, vi (Wi.getBytes xs).2.2].toArray) := by
 refine fn_enter Tryd.func98 rfl Tryd.ntmps98 lB fun a hF hS => ?_
 have hbl := hb.1
 have hwc := Wi.wcnt_cnt 1 deQ xs
 refine regS hF hS (aQ rfl <| aQ rfl <| aQ rfl <| sq_end) fun a w hF hS => ?_
 refine regS hF hS (mQ rfl <| q0 (q_call fn96 rfl (fun w hS => wcount_ct _ _ 1 omQ w (Sl.mono (hS.le zin0) hb)) hI) <| mQ rfl <| q0 (q_extract rfl rfl) <| q0 (q_extract rfl rfl) <| q0 (q_extract rfl rfl) <| aQ rfl <| aQ rfl <| aQ rfl <| sq_end) fun a w hF hS => ?_
 refine k0 ?_; intro K3 hK3
 refine regS hF hS (mQ rfl <| q0 (q_nei rfl rfl) <| sq_end) fun a w hF hS => ?_
 refine wp_ifn hF rfl (fun hc1 => ?_) (fun hc1 => ?_)
 ·refine k0 ?_; intro K5 hK5
  refine reg hF hS (mQ rfl <| aQ rfl <| aQ rfl <| aQ rfl <| sq_end) fun a w hF hS => ?_
  refine hK5 _ _ ?_
  refine wp_ret ?_
  exact fn_ret (rs := [.tmp 2, .tmp 3, .tmp 4]) rfl hF hS (vs := [_, _, _]) ⟨rfl, rfl, rfl, trivial⟩ zQ zQ (Wi.gb_err hwc.1 hc1)
 ·have hc1 : (Wi.wcnt 1 xs).2.2 = 0 := by omega
  obtain ⟨hk0, hk1, hk2, hk3⟩ := Wi.wcnt_ok (s := 1) deQ hc1
  refine wp_skip ?_
  refine hK3 _ _ ?_
  refine regS hF hS (mQ rfl <| mQ rfl <| mQ rfl <| mQ rfl <| pQ rfl rfl <| q0 (q_slsl_lo_hi ty39 ty5 hb rfl rfl rfl omQ) <| q0 (q_b2s_sl ty39 ty9 ty5 (Sl.cut hb omQ) zin0 rfl) <| mQ rfl <| mQ rfl <| pQ rfl rfl <| aQ rfl <| aQ rfl <| aQ rfl <| sq_end) fun a w hF hS => ?_
  refine wp_ret ?_
  exact fn_ret (rs := [.tmp 2, .tmp 3, .tmp 4]) rfl hF hS (vs := [_, _, _]) ⟨rfl, rfl, rfl, trivial⟩ zQ zQ (Wi.gb_ok hk0 hc1 ⟨hk1, by omega⟩)
theorem rgb_ct (v : Value) (xs : List UInt8)  (w : World) (hb : Sl encB (ph w) v xs) : Ct Tryd.prog 102 [v] w (fun r _ _ => r = .tuple [vs (Wi.getBytes xs).1, vi (Wi.getBytes xs).2.1, vi (Wi.getBytes xs).2.2].toArray) := by
 refine fn_enter Tryd.func102 rfl Tryd.ntmps102 lB fun a hF hS => ?_
 have hbl := hb.1
 skip
 refine regS hF hS (aQ rfl <| aQ rfl <| aQ rfl <| sq_end) fun a w hF hS => ?_
 refine regS hF hS (mQ rfl <| q0 (q_call fn100 rfl (fun w hS => rcount_ct _ _ 1 omQ w (Sl.mono (hS.le zin0) hb)) hI) <| mQ rfl <| q0 (q_extract rfl rfl) <| q0 (q_extract rfl rfl) <| q0 (q_extract rfl rfl) <| aQ rfl <| aQ rfl <| aQ rfl <| sq_end) fun a w hF hS => ?_
 refine k0 ?_; intro K3 hK3
 refine regS hF hS (mQ rfl <| q0 (q_nei rfl rfl) <| sq_end) fun a w hF hS => ?_
 refine wp_ifn hF rfl (fun hc1 => ?_) (fun hc1 => ?_)
 ·refine k0 ?_; intro K5 hK5
  refine reg hF hS (mQ rfl <| aQ rfl <| aQ rfl <| aQ rfl <| sq_end) fun a w hF hS => ?_
  refine hK5 _ _ ?_
  refine wp_ret ?_
  exact fn_ret (rs := [.tmp 2, .tmp 3, .tmp 4]) rfl hF hS (vs := [_, _, _]) ⟨rfl, rfl, rfl, trivial⟩ zQ zQ (Wi.gb_err rfl hc1)
 ·have hc1 : (Wi.cnt 1 xs).2.2 = 0 := by omega
  obtain ⟨_, hk1, hk2, hk3, _⟩ := Wi.cnt_ok hc1
  refine wp_skip ?_
  refine hK3 _ _ ?_
  refine regS hF hS (mQ rfl <| mQ rfl <| mQ rfl <| mQ rfl <| pQ rfl rfl <| q0 (q_slsl_lo_hi ty39 ty5 hb rfl rfl rfl omQ) <| q0 (q_b2s_sl ty39 ty9 ty5 (Sl.cut hb omQ) zin0 rfl) <| mQ rfl <| mQ rfl <| pQ rfl rfl <| aQ rfl <| aQ rfl <| aQ rfl <| sq_end) fun a w hF hS => ?_
  refine wp_ret ?_
  exact fn_ret (rs := [.tmp 2, .tmp 3, .tmp 4]) rfl hF hS (vs := [_, _, _]) ⟨rfl, rfl, rfl, trivial⟩ zQ zQ (Wi.gb_ok rfl hc1 ⟨hk1, by omega⟩)
end
section
theorem fn97 : FnOk Tryd.prog 97 := fQ Tryd.func97
theorem fn98 : FnOk Tryd.prog 98 := fQ Tryd.func98
theorem fn102 : FnOk Tryd.prog 102 := fQ Tryd.func102
theorem fn112 : FnOk Tryd.prog 112 := fQ Tryd.func112
attribute [local irreducible] Wi.int Wi.bytes Wi.ints Wi.strs Wi.dgs Ls.encT Wi.getInt Wi.valBE Wi.vj Wi.cnt Wi.wcnt Wi.getBytes Wi.run Wi.getList
theorem reader_ct (v : Value) (hv : v.oneCell' = true) (at_ : Int) (w : World) : Ct Tryd.prog 97 [v, vi at_] w (fun r zs hs => ∃ b1 b2, r = .func (.func 112) (List.nil : List Value).toArray [Value.pointer (some ⟨b1, 0, none⟩), Value.pointer (some ⟨b2, 0, none⟩)].toArray ∧ zs = [] ∧ hs = [.blk b2 3 [vi at_], .blk b1 39 [v]]) := by
 refine fn_enter Tryd.func97 rfl Tryd.ntmps97 lB fun a hF hS => ?_
 refine reglS fun K1 hK1 => ?_
 refine eQ hF hS rfl (ef_box1 rfl hv) ?_
 rintro _ _ _ a w ⟨b1, rfl, rfl, rfl⟩ hF hS
 refine eQ hF hS rfl (ef_box1 rfl rfl) ?_
 rintro _ _ _ a w ⟨b2, rfl, rfl, rfl⟩ hF hS
 refine lQ hF hS (aQ rfl <| sq_end) fun a w hF hS => ?_
 refine wpList_nil (hK1 _ _ ?_)
 refine regS hF hS (q0 (q_mkf rfl rfl) <| aQ rfl <| sq_end) fun a w hF hS => ?_
 refine wp_ret ?_
 exact fn_ret (rs := [.tmp 4]) rfl hF hS (vs := [_]) ⟨rfl, trivial⟩ sQ sQ ⟨_, _, rfl, rfl, rfl⟩
theorem reader1_ct (b1 b2 : Nat) (v : Value) (xs : List UInt8) (at_ : Int) (z : PH) (w0 : World) (zsr : List PH) (hz : ZIn w0 zsr z) (hb : Sl encB z v xs) (ha : 0 ≤ at_ ∧ at_ ≤ xs.length) : Cx Tryd.prog 112 [.pointer (some ⟨b1, 0, none⟩), .pointer (some ⟨b2, 0, none⟩)] w0 zsr [.blk b1 39 [v], .blk b2 3 [vi at_]] (fun r zs1 hs1 => r = .tuple [vi ((Wi.getInt (xs.drop at_.toNat))).1, vi (at_ + ((Wi.getInt (xs.drop at_.toNat))).2.1), vi ((Wi.getInt (xs.drop at_.toNat))).2.2].toArray ∧ zs1 = [] ∧ hs1 = [.blk b1 39 [v], .blk b2 3 [vi (at_ + (Wi.getInt (xs.drop at_.toNat)).2.1)]]) := by
 refine fn_enterx Tryd.func112 rfl Tryd.ntmps112 lB fun hsr a w hF hS => ?_
 replace hS : St _ (_) (_ :: _ :: _) _ := hS
 have hbl := hb.1
 have hgd := Wi.getInt_bd (xs.drop at_.toNat)
 rw [List.length_drop] at hgd
 refine regS hF hS (aQ rfl <| aQ rfl <| aQ rfl <| sq_end) fun a w hF hS => ?_
 refine k0 ?_; intro K2 hK2
 refine reg hF hS (q0 (q_ld_blk1 ty39 0 rfl rfl rfl rfl) <| q0 (q_ld_blk1 ty3 1 rfl rfl rfl rfl) <| q0 (q_slsl_lo ty39 ty5 hb rfl rfl omQ) <| q0 (q_call fn111 rfl (fun w hS => wgi_ct _ _ w (Sl.mono (hS.le hz) (Sl.cut hb omQ))) hI) <| mQ rfl <| q0 (q_extract rfl rfl) <| q0 (q_extract rfl rfl) <| q0 (q_extract rfl rfl) <| aQ rfl <| aQ rfl <| aQ rfl <| sq_end) fun a w hF hS => ?_
 simp only [List.take_length] at hF
 refine hK2 _ _ ?_
 refine reglS fun K3 hK3 => ?_
 refine lQ hF hS (q0 (q_ld_blk1 ty3 1 rfl rfl rfl rfl) <| mQ rfl <| pQ rfl rfl <| sq_end) fun a w hF hS => ?_
 refine eQ hF hS rfl (ef_store1 ty3 1 rfl rfl rfl rfl (by simp)) ?_
 rintro _ _ _ a w ⟨rfl, rfl, rfl⟩ hF hS
 (try simp only [sC] at hS)
 replace hS : St _ (_) (_ :: _ :: _) _ := hS
 refine wpList_nil (hK3 _ _ ?_)
 refine regdS mixed kQ hF hS (mQ rfl <| q0 (q_ld_blk1 ty3 1 rfl rfl rfl rfl) <| mQ rfl <| aQ rfl <| aQ rfl <| aQ rfl <| sq_end) fun a w hF hS => ?_
 refine wp_ret ?_
 exact fn_retx (rs := [.tmp 2, .tmp 3, .tmp 4]) rfl hF hS (vs := [_, _, _]) ⟨rfl, rfl, rfl, trivial⟩ [] [_, _] sQ sQ ⟨rfl, rfl, rfl⟩
theorem run_0 {α : Type} (dec : List UInt8 → α × Int × Int) (b : List UInt8) (at0 : Int) : Wi.run dec b at0 0 = ([], at0, 0) := by unfold Wi.run; rfl
theorem sl_one {α : Type} {E : Enc α} {z : PH} {v : Value} {xs : List α} (h : Sl E z v xs) : v.oneCell' = true := by obtain ⟨_, a, c, rfl, _⟩ := h; rfl
theorem wgis_ct (v : Value) (xs : List UInt8) (hx : xs.length < 1099511627776) (w : World) (hb : Sl encB (ph w) v xs) : Ct Tryd.prog 70 [v] w (LsR Go.Fw.encI (Wi.getList Wi.getInt xs)) := by
 refine fn_enter Tryd.func70 rfl Tryd.ntmps70 lB fun a hF hS => ?_
 have hbl := hb.1
 refine regS hF hS (aQ rfl <| aQ rfl <| aQ rfl <| sq_end) fun a w hF hS => ?_
 refine regS hF hS (mQ rfl <| q0 (q_call fn96 rfl (fun w hS => wcount_ct _ _ 1 omQ w (Sl.mono (hS.le zin0) hb)) hI) <| mQ rfl <| q0 (q_extract rfl rfl) <| q0 (q_extract rfl rfl) <| q0 (q_extract rfl rfl) <| aQ rfl <| aQ rfl <| aQ rfl <| sq_end) fun a w hF hS => ?_
 refine k0 ?_; intro K3 hK3
 refine regS hF hS (mQ rfl <| q0 (q_nei rfl rfl) <| sq_end) fun a w hF hS => ?_
 refine wp_ifn hF rfl (fun hc1 => ?_) (fun hc1 => ?_)
 ·refine k0 ?_; intro K5 hK5
  refine reg hF hS (mQ rfl <| aQ rfl <| aQ rfl <| aQ rfl <| sq_end) fun a w hF hS => ?_
  refine hK5 _ _ ?_
  refine wp_ret ?_
  replace hS := hS.zone0
  exact fn_ret (rs := [.tmp 2, .tmp 3, .tmp 4]) rfl hF hS (vs := [_, _, _]) ⟨rfl, rfl, rfl, trivial⟩ (zs' := [fun _ => none]) (hs' := []) (zQ.k) zQ (ret_nil (by rw [(Wi.wcnt_cnt 1 deQ xs).1]; exact Wi.getList_err (by rw [← (Wi.wcnt_cnt 1 deQ xs).1]; exact hc1)))
 ·have hc1 : (Wi.wcnt 1 xs).2.2 = 0 := by omega
  obtain ⟨hk0, hk1, hk2, hk3⟩ := Wi.wcnt_ok (s := 1) deQ hc1
  simp only [hk0] at hF hc1 hk1 hk2 hk3
  refine wp_skip ?_
  refine hK3 _ _ ?_
  refine reglS fun K6 hK6 => ?_
  refine lQ hF hS (mQ rfl <| mQ rfl <| sq_end) fun a w hF hS => ?_
  refine eQ hF hS rfl (ef_call fn97 rfl (fun w hS => reader_ct _ (sl_one hb) _ w )) ?_
  rintro _ _ _ a w ⟨_, _, rfl, rfl, ⟨p2, q3, rfl, rfl, rfl⟩⟩ hF hS
  replace hS := nl0_2 hS
  refine lQ hF hS (aQ rfl <| sq_end) fun a w hF hS => ?_
  refine wpList_nil (hK6 _ _ ?_)
  refine k0 ?_; intro K7 hK7
  refine reg hF hS (aQ rfl <| sq_end) fun a w hF hS => ?_
  replace hS := hS.nilRow 3 1
  refine hK7 _ _ ?_
  refine k0 ?_; intro K8 hK8
  refine regS hF hS (mQ rfl <| mQ rfl <| sq_end) fun a w hF hS => ?_
  refine wp_block ?_
  obtain ⟨hs0, hhs0, hS⟩ := hS.oh
  refine wp_loopx (γ := Value × List (Int) × Int × Int) ((Value.slice none 0 0), [], (Wi.cnt 1 xs).2.1, 0) (fun (u, acc, at_, j) => [(9, u), (6, vi at_), (26, vi j)]) [(8, _), (25, _)] (fun (u, acc, at_, j) => ((hs0.set 0 (.row u 3 1 acc.length (acc.map vi))).set 1 (.blk q3 3 [vi at_]))) (fun (u, acc, at_, j) => 0 ≤ j ∧ j ≤ (Wi.cnt 1 xs).1 ∧ Wi.run Wi.getInt xs (Wi.cnt 1 xs).2.1 j.toNat = (acc, at_, 0) ∧ 0 ≤ at_ ∧ at_ ≤ xs.length ∧ (acc.length : Int) = j) (fun (u, acc, at_, j) => ((Wi.cnt 1 xs).1 - j).toNat) (hF.sub ⟨rfl, rfl, rfl, rfl, rfl, trivial⟩) (by subst hhs0; exact hS) (by exact ⟨Int.le_refl _, by omega, by rw [show (0 : Int).toNat = 0 from rfl]; exact run_0 _ _ _, by omega, by omega, rfl⟩) ?_
  rintro ⟨u, acc, at_, j⟩ a w hfact hF hS
  subst hhs0; (try dsimp only at hfact hF hS)
  obtain ⟨hj0, hj1, hrun, ha0, ha1, hal⟩ := hfact
  replace hS := nl0_3 hS
  have hgd := Wi.getInt_bd (xs.drop at_.toNat)
  rw [List.length_drop] at hgd
  refine regS hF hS (q0 (q_lti rfl rfl) <| sq_end) fun a w hF hS => ?_
  refine k0 ?_; intro K11 hK11
  refine wp_ifd hF rfl (fun hc2 => ?_) (fun hc2 => ?_)
  ·refine wp_skip ?_
   refine hK11 _ _ ?_
   refine k0 ?_; intro K12 hK12
   refine wp_block ?_
   refine reglS fun K13 hK13 => ?_
   refine lQ hF hS (mQ rfl <| sq_end) fun a w hF hS => ?_
   replace hS := hS.perm P0_1
   replace hS := hS.perm (.cons _ (.swap _ _ _))
   replace hS := nl0_3 hS
   refine eQ hF hS rfl (ef_callvx fn112 rfl rfl (List.Perm.refl _) (by exact (reader1_ct _ _ _ _ _ _ _ _ zin0 hb ⟨by omega, by omega⟩ ))) ?_
   rintro _ _ _ a w ⟨_, _, rfl, rfl, ⟨rfl, rfl, rfl⟩⟩ hF hS
   replace hS := nl0_3 hS
   refine lQ hF hS (mQ rfl <| q0 (q_extract rfl rfl) <| q0 (q_extract rfl rfl) <| q0 (q_extract rfl rfl) <| aQ rfl <| aQ rfl <| aQ rfl <| sq_end) fun a w hF hS => ?_
   refine wpList_nil (hK13 _ _ ?_)
   refine k0 ?_; intro K14 hK14
   refine regS hF hS (mQ rfl <| q0 (q_nei rfl rfl) <| sq_end) fun a w hF hS => ?_
   refine wp_ifn hF rfl (fun hc3 => ?_) (fun hc3 => ?_)
   ·refine k0 ?_; intro K16 hK16
    refine reg hF hS (mQ rfl <| aQ rfl <| aQ rfl <| aQ rfl <| sq_end) fun a w hF hS => ?_
    refine hK16 _ _ ?_
    refine wp_ret ?_
    replace hS := hS.zone0
    exact fn_ret (rs := [.tmp 2, .tmp 3, .tmp 4]) rfl hF hS (vs := [_, _, _]) ⟨rfl, rfl, rfl, trivial⟩ (zs' := [fun _ => none]) (hs' := []) (zQ.k) zQ (ret_nil (Wi.getList_stop hc1 hj0 hrun hc3 omQ))
   ·have hc3 : (Wi.getInt (xs.drop at_.toNat)).2.2 = 0 := by omega
    have hps := Wi.getInt_pos hc3
    rw [List.length_drop] at hps
    refine wp_skip ?_
    refine hK14 _ _ ?_
    refine regl ?_
    refine lQ hF hS (mQ rfl <| mQ rfl <| sq_end) fun a w hF hS => ?_
    refine eQ hF hS rfl (ef_bsliceA ty22 ty3 rfl rfl oQ deQ rfl rfl) ?_
    rintro v6 _ _ a w ⟨rfl, rfl⟩ hF hS
    replace hS := nl0_4 hS
    refine eQ hF hS rfl (ef_append ty22 ty3 3 rfl rfl rfl (src_row ty22 (k := 0) rfl oQ) bQ rfl deQ) ?_
    rintro v8 _ _ a w ⟨rfl, rfl⟩ hF hS
    replace hS := nl0_4 hS
    refine lQ hF hS (mQ rfl <| aQ rfl <| aQ rfl <| sq_end) fun a w hF hS => ?_
    refine wpList_nil (hK12 _ _ ?_)
    refine reg hF hS (pQ rfl rfl <| mQ rfl <| sq_end) fun a w hF hS => ?_
    replace hS := hS.perm (.cons _ (.cons _ (.swap _ _ _)))
    replace hS := hS.perm (.cons _ (.swap _ _ _))
    replace hS := hS.perm (.swap _ _ _)
    replace hS := hS.perm (.cons _ (.cons _ (.swap _ _ _)))
    replace hS := hS.perm (.cons _ (.swap _ _ _))
    replace hS := hS.perm (.cons _ (.cons _ (.swap _ _ _)))
    replace hS := hS.keep zQ (zQ.k.k.k)
    refine ⟨(v8, acc ++ [(Wi.getInt (xs.drop at_.toNat)).1], at_ + (Wi.getInt (xs.drop at_.toNat)).2.1, j + 1), ?_, ?_, hF.sub ⟨rfl, rfl, rfl, rfl, rfl, trivial⟩, ?_⟩
    ·(try dsimp only); omega
    ·refine ⟨by omega, by omega, ?_, by omega, by omega, by simp; omega⟩
     rw [show (j + 1).toNat = j.toNat + 1 by omega]
     exact Wi.run_next hrun hc3
    ·have e : acc.map vi ++ [vi (Wi.getInt (xs.drop at_.toNat)).1] = (acc ++ [(Wi.getInt (xs.drop at_.toNat)).1]).map vi := by rw [List.map_append]; rfl
     have e2 : acc.length + 1 = (acc ++ [(Wi.getInt (xs.drop at_.toNat)).1]).length := by simp
     rw [e, e2] at hS
     exact hS
  ·refine wp_exit ?_
   refine hK8 _ _ ?_
   refine regS hF hS (mQ rfl <| mQ rfl <| aQ rfl <| aQ rfl <| aQ rfl <| sq_end) fun a w hF hS => ?_
   refine wp_ret ?_
   have hrr := Wi.run_range Wi.codec_int ⟨by omega, by omega⟩ hrun
   obtain ⟨z, hz1, hS⟩ := St.freezeV (f := vi) (p := fun x => -9223372036854775808 ≤ x ∧ x ≤ 9223372036854775807) hS rfl omQ (fun x hx => hrr.2 x hx)
   exact fn_ret (rs := [.tmp 2, .tmp 3, .tmp 4]) rfl hF hS (vs := [_, _, _]) ⟨rfl, rfl, rfl, trivial⟩ (zs' := [z]) (hs' := []) (zQ.k) zQ (ret_sl (Wi.getList_end hc1 hj0 hrun hj1 hc2) hz1)
theorem rgis_ct (v : Value) (xs : List UInt8) (hx : xs.length < 1099511627776) (w : World) (hb : Sl encB (ph w) v xs) : Ct Tryd.prog 75 [v] w (LsR Go.Fw.encI (Wi.getList Wi.getInt xs)) := by
 refine fn_enter Tryd.func75 rfl Tryd.ntmps75 lB fun a hF hS => ?_
 have hbl := hb.1
 refine regS hF hS (aQ rfl <| aQ rfl <| aQ rfl <| sq_end) fun a w hF hS => ?_
 refine regS hF hS (mQ rfl <| q0 (q_call fn100 rfl (fun w hS => rcount_ct _ _ 1 omQ w (Sl.mono (hS.le zin0) hb)) hI) <| mQ rfl <| q0 (q_extract rfl rfl) <| q0 (q_extract rfl rfl) <| q0 (q_extract rfl rfl) <| aQ rfl <| aQ rfl <| aQ rfl <| sq_end) fun a w hF hS => ?_
 refine k0 ?_; intro K3 hK3
 refine regS hF hS (mQ rfl <| q0 (q_nei rfl rfl) <| sq_end) fun a w hF hS => ?_
 refine wp_ifn hF rfl (fun hc1 => ?_) (fun hc1 => ?_)
 ·refine k0 ?_; intro K5 hK5
  refine reg hF hS (mQ rfl <| aQ rfl <| aQ rfl <| aQ rfl <| sq_end) fun a w hF hS => ?_
  refine hK5 _ _ ?_
  refine wp_ret ?_
  replace hS := hS.zone0
  exact fn_ret (rs := [.tmp 2, .tmp 3, .tmp 4]) rfl hF hS (vs := [_, _, _]) ⟨rfl, rfl, rfl, trivial⟩ (zs' := [fun _ => none]) (hs' := []) (zQ.k) zQ (ret_nil (Wi.getList_err hc1))
 ·have hc1 : (Wi.cnt 1 xs).2.2 = 0 := by omega
  obtain ⟨_, hk1, hk2, hk3, _⟩ := Wi.cnt_ok hc1
  refine wp_skip ?_
  refine hK3 _ _ ?_
  refine k0 ?_; intro K6 hK6
  refine reg hF hS (aQ rfl <| sq_end) fun a w hF hS => ?_
  replace hS := hS.nilRow 3 1
  refine hK6 _ _ ?_
  refine k0 ?_; intro K7 hK7
  refine regS hF hS (aQ rfl <| sq_end) fun a w hF hS => ?_
  refine wp_block ?_
  obtain ⟨hs0, hhs0, hS⟩ := hS.oh
  refine wp_loopx (γ := Value × List (Int) × Int × Int) ((Value.slice none 0 0), [], (Wi.cnt 1 xs).2.1, 0) (fun (u, acc, at_, j) => [(8, u), (6, vi at_), (9, vi j)]) [(0, _), (5, _)] (fun (u, acc, at_, j) => (hs0.set 0 (.row u 3 1 acc.length (acc.map vi)))) (fun (u, acc, at_, j) => 0 ≤ j ∧ j ≤ (Wi.cnt 1 xs).1 ∧ Wi.run Wi.getInt xs (Wi.cnt 1 xs).2.1 j.toNat = (acc, at_, 0) ∧ 0 ≤ at_ ∧ at_ ≤ xs.length ∧ (acc.length : Int) = j) (fun (u, acc, at_, j) => ((Wi.cnt 1 xs).1 - j).toNat) (hF.sub ⟨rfl, rfl, rfl, rfl, rfl, trivial⟩) (by subst hhs0; exact hS) (by exact ⟨Int.le_refl _, by omega, by rw [show (0 : Int).toNat = 0 from rfl]; exact run_0 _ _ _, by omega, by omega, rfl⟩) ?_
  rintro ⟨u, acc, at_, j⟩ a w hfact hF hS
  subst hhs0; (try dsimp only at hfact hF hS)
  obtain ⟨hj0, hj1, hrun, ha0, ha1, hal⟩ := hfact
  replace hS := nl0_1 hS
  skip
  refine k0 ?_; intro K9 hK9
  refine regS hF hS (mQ rfl <| mQ rfl <| q0 (q_lti rfl rfl) <| sq_end) fun a w hF hS => ?_
  refine wp_ifd hF rfl (fun hc2 => ?_) (fun hc2 => ?_)
  ·refine wp_skip ?_
   refine hK9 _ _ ?_
   refine k0 ?_; intro K11 hK11
   refine wp_block ?_
   refine k0 ?_; intro K12 hK12
   refine reg hF hS (mQ rfl <| mQ rfl <| q0 (q_slsl_lo ty39 ty5 hb rfl rfl omQ) <| q0 (q_call fn101 rfl (fun w hS => rgi_ct _ _ w (Sl.mono (hS.le zin0) (Sl.cut hb omQ))) hI) <| mQ rfl <| q0 (q_extract rfl rfl) <| q0 (q_extract rfl rfl) <| q0 (q_extract rfl rfl) <| aQ rfl <| aQ rfl <| aQ rfl <| sq_end) fun a w hF hS => ?_
   simp only [List.take_length] at hF
   refine hK12 _ _ ?_
   refine k0 ?_; intro K13 hK13
   refine regS hF hS (mQ rfl <| q0 (q_nei rfl rfl) <| sq_end) fun a w hF hS => ?_
   refine wp_ifn hF rfl (fun hc3 => ?_) (fun hc3 => ?_)
   ·refine k0 ?_; intro K15 hK15
    refine reg hF hS (mQ rfl <| aQ rfl <| aQ rfl <| aQ rfl <| sq_end) fun a w hF hS => ?_
    refine hK15 _ _ ?_
    refine wp_ret ?_
    replace hS := hS.zone0
    exact fn_ret (rs := [.tmp 2, .tmp 3, .tmp 4]) rfl hF hS (vs := [_, _, _]) ⟨rfl, rfl, rfl, trivial⟩ (zs' := [fun _ => none]) (hs' := []) (zQ.k) zQ (ret_nil (Wi.getList_stop hc1 hj0 hrun hc3 omQ))
   ·have hc3 : (Wi.getInt (xs.drop at_.toNat)).2.2 = 0 := by omega
    have hps := Wi.getInt_pos hc3
    rw [List.length_drop] at hps
    refine wp_skip ?_
    refine hK13 _ _ ?_
    refine reglS fun K16 hK16 => ?_
    refine lQ hF hS (mQ rfl <| mQ rfl <| sq_end) fun a w hF hS => ?_
    refine eQ hF hS rfl (ef_bsliceA ty22 ty3 rfl rfl oQ deQ rfl rfl) ?_
    rintro v2 _ _ a w ⟨rfl, rfl⟩ hF hS
    replace hS := nl0_2 hS
    refine eQ hF hS rfl (ef_append ty22 ty3 1 rfl rfl rfl (src_row ty22 (k := 0) rfl oQ) bQ rfl deQ) ?_
    rintro v4 _ _ a w ⟨rfl, rfl⟩ hF hS
    replace hS := nl0_2 hS
    refine lQ hF hS (aQ rfl <| sq_end) fun a w hF hS => ?_
    refine wpList_nil (hK16 _ _ ?_)
    refine reg hF hS (mQ rfl <| mQ rfl <| pQ rfl rfl <| aQ rfl <| sq_end) fun a w hF hS => ?_
    refine hK11 _ _ ?_
    refine reg hF hS (mQ rfl <| pQ rfl rfl <| aQ rfl <| sq_end) fun a w hF hS => ?_
    replace hS := hS.keep zQ (sN1)
    refine ⟨(v4, acc ++ [(Wi.getInt (xs.drop at_.toNat)).1], at_ + (Wi.getInt (xs.drop at_.toNat)).2.1, j + 1), ?_, ?_, hF.sub ⟨rfl, rfl, rfl, rfl, rfl, trivial⟩, ?_⟩
    ·(try dsimp only); omega
    ·refine ⟨by omega, by omega, ?_, by omega, by omega, by simp; omega⟩
     rw [show (j + 1).toNat = j.toNat + 1 by omega]
     exact Wi.run_next hrun hc3
    ·have e : acc.map vi ++ [vi (Wi.getInt (xs.drop at_.toNat)).1] = (acc ++ [(Wi.getInt (xs.drop at_.toNat)).1]).map vi := by rw [List.map_append]; rfl
     have e2 : acc.length + 1 = (acc ++ [(Wi.getInt (xs.drop at_.toNat)).1]).length := by simp
     rw [e, e2] at hS
     exact hS
  ·refine wp_exit ?_
   refine hK7 _ _ ?_
   refine regS hF hS (mQ rfl <| mQ rfl <| aQ rfl <| aQ rfl <| aQ rfl <| sq_end) fun a w hF hS => ?_
   refine wp_ret ?_
   have hrr := Wi.run_range Wi.codec_int ⟨by omega, by omega⟩ hrun
   obtain ⟨z, hz1, hS⟩ := St.freezeV (f := vi) (p := fun x => -9223372036854775808 ≤ x ∧ x ≤ 9223372036854775807) hS rfl omQ (fun x hx => hrr.2 x hx)
   exact fn_ret (rs := [.tmp 2, .tmp 3, .tmp 4]) rfl hF hS (vs := [_, _, _]) ⟨rfl, rfl, rfl, trivial⟩ (zs' := [z]) (hs' := []) (zQ.k) zQ (ret_sl (Wi.getList_end hc1 hj0 hrun hj1 hc2) hz1)
theorem wgss_ct (v : Value) (xs : List UInt8) (hx : xs.length < 1099511627776) (w : World) (hb : Sl encB (ph w) v xs) : Ct Tryd.prog 71 [v] w (LsR Go.Fw.encS (Wi.getList Wi.getBytes xs)) := by
 refine fn_enter Tryd.func71 rfl Tryd.ntmps71 lB fun a hF hS => ?_
 have hbl := hb.1
 refine regS hF hS (aQ rfl <| aQ rfl <| aQ rfl <| sq_end) fun a w hF hS => ?_
 refine regS hF hS (mQ rfl <| q0 (q_call fn96 rfl (fun w hS => wcount_ct _ _ 1 omQ w (Sl.mono (hS.le zin0) hb)) hI) <| mQ rfl <| q0 (q_extract rfl rfl) <| q0 (q_extract rfl rfl) <| q0 (q_extract rfl rfl) <| aQ rfl <| aQ rfl <| aQ rfl <| sq_end) fun a w hF hS => ?_
 refine k0 ?_; intro K3 hK3
 refine regS hF hS (mQ rfl <| q0 (q_nei rfl rfl) <| sq_end) fun a w hF hS => ?_
 refine wp_ifn hF rfl (fun hc1 => ?_) (fun hc1 => ?_)
 ·refine k0 ?_; intro K5 hK5
  refine reg hF hS (mQ rfl <| aQ rfl <| aQ rfl <| aQ rfl <| sq_end) fun a w hF hS => ?_
  refine hK5 _ _ ?_
  refine wp_ret ?_
  replace hS := hS.zone0
  exact fn_ret (rs := [.tmp 2, .tmp 3, .tmp 4]) rfl hF hS (vs := [_, _, _]) ⟨rfl, rfl, rfl, trivial⟩ (zs' := [fun _ => none]) (hs' := []) (zQ.k) zQ (ret_nil (by rw [(Wi.wcnt_cnt 1 deQ xs).1]; exact Wi.getList_err (by rw [← (Wi.wcnt_cnt 1 deQ xs).1]; exact hc1)))
 ·have hc1 : (Wi.wcnt 1 xs).2.2 = 0 := by omega
  obtain ⟨hk0, hk1, hk2, hk3⟩ := Wi.wcnt_ok (s := 1) deQ hc1
  simp only [hk0] at hF hc1 hk1 hk2 hk3
  refine wp_skip ?_
  refine hK3 _ _ ?_
  refine k0 ?_; intro K6 hK6
  refine reg hF hS (aQ rfl <| sq_end) fun a w hF hS => ?_
  replace hS := hS.nilRow 9 1
  refine hK6 _ _ ?_
  refine k0 ?_; intro K7 hK7
  refine regS hF hS (mQ rfl <| mQ rfl <| sq_end) fun a w hF hS => ?_
  refine wp_block ?_
  obtain ⟨hs0, hhs0, hS⟩ := hS.oh
  refine wp_loopx (γ := Value × List (List UInt8) × Int × Int) ((Value.slice none 0 0), [], (Wi.cnt 1 xs).2.1, 0) (fun (u, acc, at_, j) => [(8, u), (6, vi at_), (22, vi j)]) [(0, _), (21, _)] (fun (u, acc, at_, j) => (hs0.set 0 (.row u 9 1 acc.length (acc.map vs)))) (fun (u, acc, at_, j) => 0 ≤ j ∧ j ≤ (Wi.cnt 1 xs).1 ∧ Wi.run Wi.getBytes xs (Wi.cnt 1 xs).2.1 j.toNat = (acc, at_, 0) ∧ 0 ≤ at_ ∧ at_ ≤ xs.length ∧ (acc.length : Int) = j) (fun (u, acc, at_, j) => ((Wi.cnt 1 xs).1 - j).toNat) (hF.sub ⟨rfl, rfl, rfl, rfl, rfl, trivial⟩) (by subst hhs0; exact hS) (by exact ⟨Int.le_refl _, by omega, by rw [show (0 : Int).toNat = 0 from rfl]; exact run_0 _ _ _, by omega, by omega, rfl⟩) ?_
  rintro ⟨u, acc, at_, j⟩ a w hfact hF hS
  subst hhs0; (try dsimp only at hfact hF hS)
  obtain ⟨hj0, hj1, hrun, ha0, ha1, hal⟩ := hfact
  replace hS := nl0_1 hS
  skip
  refine regS hF hS (q0 (q_lti rfl rfl) <| sq_end) fun a w hF hS => ?_
  refine k0 ?_; intro K10 hK10
  refine wp_ifd hF rfl (fun hc2 => ?_) (fun hc2 => ?_)
  ·refine wp_skip ?_
   refine hK10 _ _ ?_
   refine k0 ?_; intro K11 hK11
   refine wp_block ?_
   refine k0 ?_; intro K12 hK12
   refine reg hF hS (mQ rfl <| mQ rfl <| q0 (q_slsl_lo ty39 ty5 hb rfl rfl omQ) <| q0 (q_call fn98 rfl (fun w hS => wgb_ct _ _ w (Sl.mono (hS.le zin0) (Sl.cut hb omQ))) hI) <| mQ rfl <| q0 (q_extract rfl rfl) <| q0 (q_extract rfl rfl) <| q0 (q_extract rfl rfl) <| aQ rfl <| aQ rfl <| aQ rfl <| sq_end) fun a w hF hS => ?_
   simp only [List.take_length] at hF
   refine hK12 _ _ ?_
   refine k0 ?_; intro K13 hK13
   refine regS hF hS (mQ rfl <| q0 (q_nei rfl rfl) <| sq_end) fun a w hF hS => ?_
   refine wp_ifn hF rfl (fun hc3 => ?_) (fun hc3 => ?_)
   ·refine k0 ?_; intro K15 hK15
    refine reg hF hS (mQ rfl <| aQ rfl <| aQ rfl <| aQ rfl <| sq_end) fun a w hF hS => ?_
    refine hK15 _ _ ?_
    refine wp_ret ?_
    replace hS := hS.zone0
    exact fn_ret (rs := [.tmp 2, .tmp 3, .tmp 4]) rfl hF hS (vs := [_, _, _]) ⟨rfl, rfl, rfl, trivial⟩ (zs' := [fun _ => none]) (hs' := []) (zQ.k) zQ (ret_nil (Wi.getList_stop hc1 hj0 hrun hc3 omQ))
   ·have hc3 : (Wi.getBytes (xs.drop at_.toNat)).2.2 = 0 := by omega
    have hps := Wi.getBytes_pos hc3
    rw [List.length_drop] at hps
    refine wp_skip ?_
    refine hK13 _ _ ?_
    refine regl ?_
    refine lQ hF hS (mQ rfl <| mQ rfl <| sq_end) fun a w hF hS => ?_
    refine eQ hF hS rfl (ef_bsliceA ty47 ty9 rfl rfl oQ deQ rfl rfl) ?_
    rintro v2 _ _ a w ⟨rfl, rfl⟩ hF hS
    replace hS := nl0_2 hS
    refine eQ hF hS rfl (ef_append ty47 ty9 1 rfl rfl rfl (src_row ty47 (k := 0) rfl oQ) bQ rfl deQ) ?_
    rintro v4 _ _ a w ⟨rfl, rfl⟩ hF hS
    replace hS := nl0_2 hS
    refine lQ hF hS (mQ rfl <| mQ rfl <| pQ rfl rfl <| aQ rfl <| aQ rfl <| sq_end) fun a w hF hS => ?_
    refine wpList_nil (hK11 _ _ ?_)
    refine reg hF hS (pQ rfl rfl <| mQ rfl <| sq_end) fun a w hF hS => ?_
    replace hS := hS.keep zQ (sN1)
    refine ⟨(v4, acc ++ [(Wi.getBytes (xs.drop at_.toNat)).1], at_ + (Wi.getBytes (xs.drop at_.toNat)).2.1, j + 1), ?_, ?_, hF.sub ⟨rfl, rfl, rfl, rfl, rfl, trivial⟩, ?_⟩
    ·(try dsimp only); omega
    ·refine ⟨by omega, by omega, ?_, by omega, by omega, by simp; omega⟩
     rw [show (j + 1).toNat = j.toNat + 1 by omega]
     exact Wi.run_next hrun hc3
    ·have e : acc.map vs ++ [vs (Wi.getBytes (xs.drop at_.toNat)).1] = (acc ++ [(Wi.getBytes (xs.drop at_.toNat)).1]).map vs := by rw [List.map_append]; rfl
     have e2 : acc.length + 1 = (acc ++ [(Wi.getBytes (xs.drop at_.toNat)).1]).length := by simp
     rw [e, e2] at hS
     exact hS
  ·refine wp_exit ?_
   refine hK7 _ _ ?_
   refine regS hF hS (mQ rfl <| mQ rfl <| aQ rfl <| aQ rfl <| aQ rfl <| sq_end) fun a w hF hS => ?_
   refine wp_ret ?_
   have hrr := Wi.run_range Wi.codec_bytes ⟨by omega, by omega⟩ hrun
   obtain ⟨z, hz1, hS⟩ := St.freezeV (f := vs) (p := fun s => s.length ≤ 140737488355328) hS rfl omQ (fun x hx => by have := Wi.str_small ⟨by omega, by omega⟩ hrun x hx; omega)
   exact fn_ret (rs := [.tmp 2, .tmp 3, .tmp 4]) rfl hF hS (vs := [_, _, _]) ⟨rfl, rfl, rfl, trivial⟩ (zs' := [z]) (hs' := []) (zQ.k) zQ (ret_sl (Wi.getList_end hc1 hj0 hrun hj1 hc2) hz1)
theorem rgss_ct (v : Value) (xs : List UInt8) (hx : xs.length < 1099511627776) (w : World) (hb : Sl encB (ph w) v xs) : Ct Tryd.prog 76 [v] w (LsR Go.Fw.encS (Wi.getList Wi.getBytes xs)) := by
 refine fn_enter Tryd.func76 rfl Tryd.ntmps76 lB fun a hF hS => ?_
 have hbl := hb.1
 refine regS hF hS (aQ rfl <| aQ rfl <| aQ rfl <| sq_end) fun a w hF hS => ?_
 refine regS hF hS (mQ rfl <| q0 (q_call fn100 rfl (fun w hS => rcount_ct _ _ 1 omQ w (Sl.mono (hS.le zin0) hb)) hI) <| mQ rfl <| q0 (q_extract rfl rfl) <| q0 (q_extract rfl rfl) <| q0 (q_extract rfl rfl) <| aQ rfl <| aQ rfl <| aQ rfl <| sq_end) fun a w hF hS => ?_
 refine k0 ?_; intro K3 hK3
 refine regS hF hS (mQ rfl <| q0 (q_nei rfl rfl) <| sq_end) fun a w hF hS => ?_
 refine wp_ifn hF rfl (fun hc1 => ?_) (fun hc1 => ?_)
 ·refine k0 ?_; intro K5 hK5
  refine reg hF hS (mQ rfl <| aQ rfl <| aQ rfl <| aQ rfl <| sq_end) fun a w hF hS => ?_
  refine hK5 _ _ ?_
  refine wp_ret ?_
  replace hS := hS.zone0
  exact fn_ret (rs := [.tmp 2, .tmp 3, .tmp 4]) rfl hF hS (vs := [_, _, _]) ⟨rfl, rfl, rfl, trivial⟩ (zs' := [fun _ => none]) (hs' := []) (zQ.k) zQ (ret_nil (Wi.getList_err hc1))
 ·have hc1 : (Wi.cnt 1 xs).2.2 = 0 := by omega
  obtain ⟨_, hk1, hk2, hk3, _⟩ := Wi.cnt_ok hc1
  refine wp_skip ?_
  refine hK3 _ _ ?_
  refine k0 ?_; intro K6 hK6
  refine reg hF hS (aQ rfl <| sq_end) fun a w hF hS => ?_
  replace hS := hS.nilRow 9 1
  refine hK6 _ _ ?_
  refine k0 ?_; intro K7 hK7
  refine regS hF hS (aQ rfl <| sq_end) fun a w hF hS => ?_
  refine wp_block ?_
  obtain ⟨hs0, hhs0, hS⟩ := hS.oh
  refine wp_loopx (γ := Value × List (List UInt8) × Int × Int) ((Value.slice none 0 0), [], (Wi.cnt 1 xs).2.1, 0) (fun (u, acc, at_, j) => [(8, u), (6, vi at_), (9, vi j)]) [(0, _), (5, _)] (fun (u, acc, at_, j) => (hs0.set 0 (.row u 9 1 acc.length (acc.map vs)))) (fun (u, acc, at_, j) => 0 ≤ j ∧ j ≤ (Wi.cnt 1 xs).1 ∧ Wi.run Wi.getBytes xs (Wi.cnt 1 xs).2.1 j.toNat = (acc, at_, 0) ∧ 0 ≤ at_ ∧ at_ ≤ xs.length ∧ (acc.length : Int) = j) (fun (u, acc, at_, j) => ((Wi.cnt 1 xs).1 - j).toNat) (hF.sub ⟨rfl, rfl, rfl, rfl, rfl, trivial⟩) (by subst hhs0; exact hS) (by exact ⟨Int.le_refl _, by omega, by rw [show (0 : Int).toNat = 0 from rfl]; exact run_0 _ _ _, by omega, by omega, rfl⟩) ?_
  rintro ⟨u, acc, at_, j⟩ a w hfact hF hS
  subst hhs0; (try dsimp only at hfact hF hS)
  obtain ⟨hj0, hj1, hrun, ha0, ha1, hal⟩ := hfact
  replace hS := nl0_1 hS
  skip
  refine k0 ?_; intro K9 hK9
  refine regS hF hS (mQ rfl <| mQ rfl <| q0 (q_lti rfl rfl) <| sq_end) fun a w hF hS => ?_
  refine wp_ifd hF rfl (fun hc2 => ?_) (fun hc2 => ?_)
  ·refine wp_skip ?_
   refine hK9 _ _ ?_
   refine k0 ?_; intro K11 hK11
   refine wp_block ?_
   refine k0 ?_; intro K12 hK12
   refine reg hF hS (mQ rfl <| mQ rfl <| q0 (q_slsl_lo ty39 ty5 hb rfl rfl omQ) <| q0 (q_call fn102 rfl (fun w hS => rgb_ct _ _ w (Sl.mono (hS.le zin0) (Sl.cut hb omQ))) hI) <| mQ rfl <| q0 (q_extract rfl rfl) <| q0 (q_extract rfl rfl) <| q0 (q_extract rfl rfl) <| aQ rfl <| aQ rfl <| aQ rfl <| sq_end) fun a w hF hS => ?_
   simp only [List.take_length] at hF
   refine hK12 _ _ ?_
   refine k0 ?_; intro K13 hK13
   refine regS hF hS (mQ rfl <| q0 (q_nei rfl rfl) <| sq_end) fun a w hF hS => ?_
   refine wp_ifn hF rfl (fun hc3 => ?_) (fun hc3 => ?_)
   ·refine k0 ?_; intro K15 hK15
    refine reg hF hS (mQ rfl <| aQ rfl <| aQ rfl <| aQ rfl <| sq_end) fun a w hF hS => ?_
    refine hK15 _ _ ?_
    refine wp_ret ?_
    replace hS := hS.zone0
    exact fn_ret (rs := [.tmp 2, .tmp 3, .tmp 4]) rfl hF hS (vs := [_, _, _]) ⟨rfl, rfl, rfl, trivial⟩ (zs' := [fun _ => none]) (hs' := []) (zQ.k) zQ (ret_nil (Wi.getList_stop hc1 hj0 hrun hc3 omQ))
   ·have hc3 : (Wi.getBytes (xs.drop at_.toNat)).2.2 = 0 := by omega
    have hps := Wi.getBytes_pos hc3
    rw [List.length_drop] at hps
    refine wp_skip ?_
    refine hK13 _ _ ?_
    refine reglS fun K16 hK16 => ?_
    refine lQ hF hS (mQ rfl <| mQ rfl <| sq_end) fun a w hF hS => ?_
    refine eQ hF hS rfl (ef_bsliceA ty47 ty9 rfl rfl oQ deQ rfl rfl) ?_
    rintro v2 _ _ a w ⟨rfl, rfl⟩ hF hS
    replace hS := nl0_2 hS
    refine eQ hF hS rfl (ef_append ty47 ty9 1 rfl rfl rfl (src_row ty47 (k := 0) rfl oQ) bQ rfl deQ) ?_
    rintro v4 _ _ a w ⟨rfl, rfl⟩ hF hS
    replace hS := nl0_2 hS
    refine lQ hF hS (aQ rfl <| sq_end) fun a w hF hS => ?_
    refine wpList_nil (hK16 _ _ ?_)
    refine reg hF hS (mQ rfl <| mQ rfl <| pQ rfl rfl <| aQ rfl <| sq_end) fun a w hF hS => ?_
    refine hK11 _ _ ?_
    refine reg hF hS (mQ rfl <| pQ rfl rfl <| aQ rfl <| sq_end) fun a w hF hS => ?_
    replace hS := hS.keep zQ (sN1)
    refine ⟨(v4, acc ++ [(Wi.getBytes (xs.drop at_.toNat)).1], at_ + (Wi.getBytes (xs.drop at_.toNat)).2.1, j + 1), ?_, ?_, hF.sub ⟨rfl, rfl, rfl, rfl, rfl, trivial⟩, ?_⟩
    ·(try dsimp only); omega
    ·refine ⟨by omega, by omega, ?_, by omega, by omega, by simp; omega⟩
     rw [show (j + 1).toNat = j.toNat + 1 by omega]
     exact Wi.run_next hrun hc3
    ·have e : acc.map vs ++ [vs (Wi.getBytes (xs.drop at_.toNat)).1] = (acc ++ [(Wi.getBytes (xs.drop at_.toNat)).1]).map vs := by rw [List.map_append]; rfl
     have e2 : acc.length + 1 = (acc ++ [(Wi.getBytes (xs.drop at_.toNat)).1]).length := by simp
     rw [e, e2] at hS
     exact hS
  ·refine wp_exit ?_
   refine hK7 _ _ ?_
   refine regS hF hS (mQ rfl <| mQ rfl <| aQ rfl <| aQ rfl <| aQ rfl <| sq_end) fun a w hF hS => ?_
   refine wp_ret ?_
   have hrr := Wi.run_range Wi.codec_bytes ⟨by omega, by omega⟩ hrun
   obtain ⟨z, hz1, hS⟩ := St.freezeV (f := vs) (p := fun s => s.length ≤ 140737488355328) hS rfl omQ (fun x hx => by have := Wi.str_small ⟨by omega, by omega⟩ hrun x hx; omega)
   exact fn_ret (rs := [.tmp 2, .tmp 3, .tmp 4]) rfl hF hS (vs := [_, _, _]) ⟨rfl, rfl, rfl, trivial⟩ (zs' := [z]) (hs' := []) (zQ.k) zQ (ret_sl (Wi.getList_end hc1 hj0 hrun hj1 hc2) hz1)
end
section
attribute [local irreducible] Wi.int Wi.bytes Wi.ints Wi.strs Wi.dgs Ls.encT Wi.getInt Wi.valBE Wi.vj Wi.cnt Wi.wcnt Wi.getBytes Wi.run Wi.getList Wi.getDigs Wi.dgL
theorem dgL_0 (b : List UInt8) (a : Nat) : Wi.dgL b a 0 = [] := by unfold Wi.dgL; rfl
theorem wgds_ct (v : Value) (xs : List UInt8) (hx : xs.length < 1099511627776) (w : World) (hb : Sl encB (ph w) v xs) : Ct Tryd.prog 72 [v] w (LsR (encA 16) (Wi.getDigs xs)) := by
 refine fn_enter Tryd.func72 rfl Tryd.ntmps72 lB fun a hF hS => ?_
 have hbl := hb.1
 refine regS hF hS (aQ rfl <| aQ rfl <| aQ rfl <| sq_end) fun a w hF hS => ?_
 refine regS hF hS (mQ rfl <| q0 (q_call fn96 rfl (fun w hS => wcount_ct _ _ 16 omQ w (Sl.mono (hS.le zin0) hb)) hI) <| mQ rfl <| q0 (q_extract rfl rfl) <| q0 (q_extract rfl rfl) <| q0 (q_extract rfl rfl) <| aQ rfl <| aQ rfl <| aQ rfl <| sq_end) fun a w hF hS => ?_
 refine k0 ?_; intro K3 hK3
 refine regS hF hS (mQ rfl <| q0 (q_nei rfl rfl) <| sq_end) fun a w hF hS => ?_
 refine wp_ifn hF rfl (fun hc1 => ?_) (fun hc1 => ?_)
 ·refine k0 ?_; intro K5 hK5
  refine reg hF hS (mQ rfl <| aQ rfl <| aQ rfl <| aQ rfl <| sq_end) fun a w hF hS => ?_
  refine hK5 _ _ ?_
  refine wp_ret ?_
  replace hS := hS.zone0
  exact fn_ret (rs := [.tmp 2, .tmp 3, .tmp 4]) rfl hF hS (vs := [_, _, _]) ⟨rfl, rfl, rfl, trivial⟩ (zs' := [fun _ => none]) (hs' := []) (zQ.k) zQ (ret_nil (by rw [(Wi.wcnt_cnt 16 deQ xs).1]; exact Wi.getDigs_err (by rw [← (Wi.wcnt_cnt 16 deQ xs).1]; exact hc1)))
 ·have hc1 : (Wi.wcnt 16 xs).2.2 = 0 := by omega
  obtain ⟨hk0, hk1, hk2, hk3⟩ := Wi.wcnt_ok (s := 16) deQ hc1
  simp only [hk0] at hF hc1 hk1 hk2 hk3
  refine wp_skip ?_
  refine hK3 _ _ ?_
  refine k0 ?_; intro K6 hK6
  refine reg hF hS (aQ rfl <| sq_end) fun a w hF hS => ?_
  replace hS := hS.nilRow 29 16
  refine hK6 _ _ ?_
  refine k0 ?_; intro K7 hK7
  refine regS hF hS (mQ rfl <| mQ rfl <| sq_end) fun a w hF hS => ?_
  refine wp_block ?_
  obtain ⟨hs0, hhs0, hS⟩ := hS.oh
  refine wp_loopx (γ := Value × Int) ((Value.slice none 0 0), 0) (fun (u, j) => [(8, u), (6, vi ((Wi.cnt 16 xs).2.1 + 16 * j)), (19, vi j)]) [(0, _), (18, _)] (fun (u, j) => (hs0.set 0 (.row u 29 16 j.toNat ((Wi.dgL xs (Wi.cnt 16 xs).2.1.toNat j.toNat).flatMap (fun y => y.map vb))))) (fun (u, j) => 0 ≤ j ∧ j ≤ (Wi.cnt 16 xs).1) (fun (u, j) => ((Wi.cnt 16 xs).1 - j).toNat) (hF.sub ⟨rfl, (by show some (vi _) = some (vi _); congr 2; omega), rfl, rfl, rfl, trivial⟩) (by subst hhs0; dsimp only; rw [show (0 : Int).toNat = 0 from rfl, show Wi.dgL xs (Wi.cnt 16 xs).2.1.toNat 0 = [] from dgL_0 _ _]; exact hS) (by exact ⟨Int.le_refl _, by omega⟩) ?_
  rintro ⟨u, j⟩ a w hfact hF hS
  subst hhs0; (try dsimp only at hfact hF hS)
  obtain ⟨hj0, hj1⟩ := hfact
  replace hS := nl0_1 hS
  refine regS hF hS (q0 (q_lti rfl rfl) <| sq_end) fun a w hF hS => ?_
  refine k0 ?_; intro K10 hK10
  refine wp_ifd hF rfl (fun hc2 => ?_) (fun hc2 => ?_)
  ·have hch : ((xs.take ((Wi.cnt 16 xs).2.1 + 16 * j + 16).toNat).drop ((Wi.cnt 16 xs).2.1 + 16 * j).toNat) = ((xs.drop ((Wi.cnt 16 xs).2.1.toNat + 16 * j.toNat)).take 16) := by rw [List.drop_take, show ((Wi.cnt 16 xs).2.1 + 16 * j).toNat = (Wi.cnt 16 xs).2.1.toNat + 16 * j.toNat by omega]; congr 1; omega
   have hcl : ((xs.drop ((Wi.cnt 16 xs).2.1.toNat + 16 * j.toNat)).take 16).length = 16 := by rw [List.length_take, List.length_drop]; omega
   have hcl2 : ((xs.take ((Wi.cnt 16 xs).2.1 + 16 * j + 16).toNat).drop ((Wi.cnt 16 xs).2.1 + 16 * j).toNat).length = 16 := by rw [hch]; exact hcl
   refine wp_skip ?_
   refine hK10 _ _ ?_
   refine k0 ?_; intro K11 hK11
   refine wp_block ?_
   refine reglS fun K12 hK12 => ?_
   refine lQ hF hS (mQ rfl <| mQ rfl <| mQ rfl <| mQ rfl <| pQ rfl rfl <| q0 (q_slsl_lo_hi ty39 ty5 hb rfl rfl rfl omQ) <| q0 (q_s2ap_sl ty29 (Sl.cut hb omQ) rfl bQ deQ) <| q0 (q_ld_B16 ty29 (Sl.cut hb omQ) zin0 rfl rfl bQ deQ) <| sq_end) fun a w hF hS => ?_
   refine eQ hF hS rfl (ef_bsliceW ty48 ty29 rfl bQ deQ oQ deQ deQ) ?_
   rintro v2 _ _ a w ⟨rfl, rfl⟩ hF hS
   replace hS := nl0_2 hS
   refine eQ hF hS rfl (ef_append ty48 ty29 1 rfl rfl rfl (src_row ty48 (k := 0) rfl oQ) bQ rfl deQ) ?_
   rintro v4 _ _ a w ⟨rfl, rfl⟩ hF hS
   replace hS := nl0_2 hS
   refine lQ hF hS (aQ rfl <| sq_end) fun a w hF hS => ?_
   refine wpList_nil (hK12 _ _ ?_)
   refine reg hF hS (mQ rfl <| pQ rfl rfl <| aQ rfl <| sq_end) fun a w hF hS => ?_
   refine hK11 _ _ ?_
   refine reg hF hS (pQ rfl rfl <| mQ rfl <| sq_end) fun a w hF hS => ?_
   replace hS := hS.keep zQ (sN1)
   refine ⟨(v4, j + 1), ?_, ?_, hF.sub ⟨rfl, (by show some (vi _) = some (vi _); congr 2; omega), rfl, rfl, rfl, trivial⟩, ?_⟩
   ·(try dsimp only); omega
   ·(try dsimp only); omega
   ·have e : (Wi.dgL xs (Wi.cnt 16 xs).2.1.toNat j.toNat).flatMap (fun y => y.map vb) ++ ((xs.drop ((Wi.cnt 16 xs).2.1.toNat + 16 * j.toNat)).take 16).map vb = (Wi.dgL xs (Wi.cnt 16 xs).2.1.toNat (j + 1).toNat).flatMap (fun y => y.map vb) := by rw [show (j + 1).toNat = j.toNat + 1 by omega, Wi.dgL_succ, List.flatMap_append]; simp
    rw [hch, e, show j.toNat + 1 = (j + 1).toNat by omega] at hS
    exact hS
  ·refine wp_exit ?_
   refine hK7 _ _ ?_
   refine regS hF hS (mQ rfl <| mQ rfl <| aQ rfl <| aQ rfl <| aQ rfl <| sq_end) fun a w hF hS => ?_
   refine wp_ret ?_
   obtain ⟨z, hz1, hS⟩ := St.freezeAw hS (by rw [Wi.dgL_len]) omQ (Wi.dgL_16 _ _ _ omQ)
   exact fn_ret (rs := [.tmp 2, .tmp 3, .tmp 4]) rfl hF hS (vs := [_, _, _]) ⟨rfl, rfl, rfl, trivial⟩ (zs' := [z]) (hs' := []) (zQ.k) zQ (ret_sl (Wi.getDigs_ok hc1 omQ) hz1)
theorem rgds_ct (v : Value) (xs : List UInt8) (hx : xs.length < 1099511627776) (w : World) (hb : Sl encB (ph w) v xs) : Ct Tryd.prog 77 [v] w (LsR (encA 16) (Wi.getDigs xs)) := by
 refine fn_enter Tryd.func77 rfl Tryd.ntmps77 lB fun a hF hS => ?_
 have hbl := hb.1
 refine regS hF hS (aQ rfl <| aQ rfl <| aQ rfl <| sq_end) fun a w hF hS => ?_
 refine regS hF hS (mQ rfl <| q0 (q_call fn100 rfl (fun w hS => rcount_ct _ _ 16 omQ w (Sl.mono (hS.le zin0) hb)) hI) <| mQ rfl <| q0 (q_extract rfl rfl) <| q0 (q_extract rfl rfl) <| q0 (q_extract rfl rfl) <| aQ rfl <| aQ rfl <| aQ rfl <| sq_end) fun a w hF hS => ?_
 refine k0 ?_; intro K3 hK3
 refine regS hF hS (mQ rfl <| q0 (q_nei rfl rfl) <| sq_end) fun a w hF hS => ?_
 refine wp_ifn hF rfl (fun hc1 => ?_) (fun hc1 => ?_)
 ·refine k0 ?_; intro K5 hK5
  refine reg hF hS (mQ rfl <| aQ rfl <| aQ rfl <| aQ rfl <| sq_end) fun a w hF hS => ?_
  refine hK5 _ _ ?_
  refine wp_ret ?_
  replace hS := hS.zone0
  exact fn_ret (rs := [.tmp 2, .tmp 3, .tmp 4]) rfl hF hS (vs := [_, _, _]) ⟨rfl, rfl, rfl, trivial⟩ (zs' := [fun _ => none]) (hs' := []) (zQ.k) zQ (ret_nil (Wi.getDigs_err hc1))
 ·have hc1 : (Wi.cnt 16 xs).2.2 = 0 := by omega
  obtain ⟨_, hk1, hk2, hk3, _⟩ := Wi.cnt_ok hc1
  refine wp_skip ?_
  refine hK3 _ _ ?_
  refine k0 ?_; intro K6 hK6
  refine reg hF hS (aQ rfl <| sq_end) fun a w hF hS => ?_
  replace hS := hS.nilRow 29 16
  refine hK6 _ _ ?_
  refine k0 ?_; intro K7 hK7
  refine regS hF hS (aQ rfl <| sq_end) fun a w hF hS => ?_
  refine wp_block ?_
  obtain ⟨hs0, hhs0, hS⟩ := hS.oh
  refine wp_loopx (γ := Value × Int) ((Value.slice none 0 0), 0) (fun (u, j) => [(8, u), (6, vi ((Wi.cnt 16 xs).2.1 + 16 * j)), (9, vi j)]) [(0, _), (5, _)] (fun (u, j) => (hs0.set 0 (.row u 29 16 j.toNat ((Wi.dgL xs (Wi.cnt 16 xs).2.1.toNat j.toNat).flatMap (fun y => y.map vb))))) (fun (u, j) => 0 ≤ j ∧ j ≤ (Wi.cnt 16 xs).1) (fun (u, j) => ((Wi.cnt 16 xs).1 - j).toNat) (hF.sub ⟨rfl, (by show some (vi _) = some (vi _); congr 2; omega), rfl, rfl, rfl, trivial⟩) (by subst hhs0; dsimp only; rw [show (0 : Int).toNat = 0 from rfl, show Wi.dgL xs (Wi.cnt 16 xs).2.1.toNat 0 = [] from dgL_0 _ _]; exact hS) (by exact ⟨Int.le_refl _, by omega⟩) ?_
  rintro ⟨u, j⟩ a w hfact hF hS
  subst hhs0; (try dsimp only at hfact hF hS)
  obtain ⟨hj0, hj1⟩ := hfact
  replace hS := nl0_1 hS
  refine k0 ?_; intro K9 hK9
  refine regS hF hS (mQ rfl <| mQ rfl <| q0 (q_lti rfl rfl) <| sq_end) fun a w hF hS => ?_
  refine wp_ifd hF rfl (fun hc2 => ?_) (fun hc2 => ?_)
  ·have hcl : ((xs.drop ((Wi.cnt 16 xs).2.1.toNat + 16 * j.toNat)).take 16).length = 16 := by rw [List.length_take, List.length_drop]; omega
   have hdl : 16 ≤ (xs.drop ((Wi.cnt 16 xs).2.1.toNat + 16 * j.toNat)).length := by rw [List.length_drop]; omega
   refine wp_skip ?_
   refine hK9 _ _ ?_
   refine k0 ?_; intro K11 hK11
   refine wp_block ?_
   refine reglS fun K12 hK12 => ?_
   refine eQ hF hS rfl (ef_allocA ty29) ?_
   rintro _ _ _ a w ⟨b2, rfl, rfl, rfl⟩ hF hS
   rw [show List.replicate 16 (Value.int .u8 0) = (List.replicate 16 (0 : UInt8)).map vb from by rw [List.map_replicate] <;> rfl] at hS
   refine wpList_nil (hK12 _ _ ?_)
   refine k0 ?_; intro K13 hK13
   refine regS hF hS (aQ rfl <| sq_end) fun a w hF hS => ?_
   refine wp_block ?_
   obtain ⟨hs0, hhs0, hS⟩ := hS.oh
   refine wp_loopx (γ := Int) (0) (fun (i : Int) => [(11, vi i)]) [(0, _), (5, _), (6, _), (8, _), (9, _), (10, _)] (fun (i : Int) => (hs0.set 0 (.blk b2 29 ((Sha.cpW (xs.drop ((Wi.cnt 16 xs).2.1.toNat + 16 * j.toNat)) 16 i.toNat).map vb)))) (fun (i : Int) => 0 ≤ i ∧ i ≤ 16) (fun (i : Int) => (16 - i).toNat) (hF.sub ⟨rfl, rfl, rfl, rfl, rfl, rfl, rfl, trivial⟩) (by subst hhs0; rw [show (0 : Int).toNat = 0 from rfl, Sha.cpW_0]; exact hS) (by simp) ?_
   rintro i a w hfact hF hS
   subst hhs0; (try dsimp only at hfact hF hS)
   obtain ⟨hi0, hi1⟩ := hfact
   replace hS := nl0_2 hS
   have hcw := Sha.cpW_len (xs.drop ((Wi.cnt 16 xs).2.1.toNat + 16 * j.toNat)) 16 i.toNat omQ hdl
   refine k0 ?_; intro K15 hK15
   refine regS hF hS (mQ rfl <| q0 (q_lti rfl rfl) <| sq_end) fun a w hF hS => ?_
   refine wp_ifd hF rfl (fun hc3 => ?_) (fun hc3 => ?_)
   ·refine wp_skip ?_
    refine hK15 _ _ ?_
    refine k0 ?_; intro K17 hK17
    refine wp_block ?_
    refine regl ?_
    refine lQ hF hS (mQ rfl <| mQ rfl <| mQ rfl <| mQ rfl <| pQ rfl rfl <| q0 (q_idx_sl ty39 ty5 hb rfl rfl omQ) <| q0 (q_ld_B ty5 hb zin0 rfl rfl omQ) <| q0 (q_idx_arr0 ty29 ty5 rfl rfl omQ) <| sq_end) fun a w hF hS => ?_
    refine eQ hF hS rfl (ef_st_blkM ty5 0 rfl rfl rfl bQ rfl) ?_
    rintro _ _ _ a w ⟨rfl, rfl, rfl⟩ hF hS
    replace hS := nl0_2 hS
    refine wpList_nil (hK17 _ _ ?_)
    refine reg hF hS (mQ rfl <| pQ rfl rfl <| aQ rfl <| sq_end) fun a w hF hS => ?_
    refine ⟨(i + 1), ?_, ?_, hF.sub ⟨rfl, rfl, rfl, rfl, rfl, rfl, rfl, trivial⟩, ?_⟩
    ·(try dsimp only); omega
    ·(try dsimp only); omega
    ·have hst := Sha.cpW_step (xs.drop ((Wi.cnt 16 xs).2.1.toNat + 16 * j.toNat)) 16 i.toNat omQ hdl
     have hge : xs.getD ((Wi.cnt 16 xs).2.1 + 16 * j + i).toNat 0 = (xs.drop ((Wi.cnt 16 xs).2.1.toNat + 16 * j.toNat)).getD i.toNat 0 := by rw [List.getD_eq_getElem?_getD, List.getD_eq_getElem?_getD, List.getElem?_drop, show ((Wi.cnt 16 xs).2.1 + 16 * j + i).toNat = (Wi.cnt 16 xs).2.1.toNat + 16 * j.toNat + i.toNat by omega]
     rw [hge, hst, show i.toNat + 1 = (i + 1).toNat by omega] at hS
     exact hS
   ·obtain rfl : i = 16 := by omega
    rw [show (16 : Int).toNat = 16 from rfl, Sha.cpW_all] at hS
    clear hcw
    refine wp_exit ?_
    refine hK13 _ _ ?_
    refine reglS fun K18 hK18 => ?_
    refine lQ hF hS (mQ rfl <| q0 (q_ld_blkW ty29 0 rfl rfl bQ rfl) <| sq_end) fun a w hF hS => ?_
    refine eQ hF hS rfl (ef_bsliceW ty48 ty29 rfl bQ deQ oQ deQ deQ) ?_
    rintro v3 _ _ a w ⟨rfl, rfl⟩ hF hS
    replace hS := nl0_3 hS
    refine eQ hF hS rfl (ef_append ty48 ty29 2 rfl rfl rfl (src_row ty48 (k := 0) rfl oQ) bQ rfl deQ) ?_
    rintro v5 _ _ a w ⟨rfl, rfl⟩ hF hS
    replace hS := nl0_3 hS
    refine lQ hF hS (aQ rfl <| sq_end) fun a w hF hS => ?_
    refine wpList_nil (hK18 _ _ ?_)
    refine reg hF hS (mQ rfl <| pQ rfl rfl <| aQ rfl <| sq_end) fun a w hF hS => ?_
    refine hK11 _ _ ?_
    refine reg hF hS (mQ rfl <| pQ rfl rfl <| aQ rfl <| sq_end) fun a w hF hS => ?_
    replace hS := hS.keep zQ (sN2)
    refine ⟨(v5, j + 1), ?_, ?_, hF.sub ⟨rfl, (by show some (vi _) = some (vi _); congr 2; omega), rfl, rfl, rfl, trivial⟩, ?_⟩
    ·(try dsimp only); omega
    ·(try dsimp only); omega
    ·have e : (Wi.dgL xs (Wi.cnt 16 xs).2.1.toNat j.toNat).flatMap (fun y => y.map vb) ++ ((xs.drop ((Wi.cnt 16 xs).2.1.toNat + 16 * j.toNat)).take 16).map vb = (Wi.dgL xs (Wi.cnt 16 xs).2.1.toNat (j + 1).toNat).flatMap (fun y => y.map vb) := by rw [show (j + 1).toNat = j.toNat + 1 by omega, Wi.dgL_succ, List.flatMap_append]; simp
     rw [e, show j.toNat + 1 = (j + 1).toNat by omega] at hS
     exact hS
  ·refine wp_exit ?_
   refine hK7 _ _ ?_
   refine regS hF hS (mQ rfl <| mQ rfl <| aQ rfl <| aQ rfl <| aQ rfl <| sq_end) fun a w hF hS => ?_
   refine wp_ret ?_
   obtain ⟨z, hz1, hS⟩ := St.freezeAw hS (by rw [Wi.dgL_len]) omQ (Wi.dgL_16 _ _ _ omQ)
   exact fn_ret (rs := [.tmp 2, .tmp 3, .tmp 4]) rfl hF hS (vs := [_, _, _]) ⟨rfl, rfl, rfl, trivial⟩ (zs' := [z]) (hs' := []) (zQ.k) zQ (ret_sl (Wi.getDigs_ok hc1 omQ) hz1)
theorem rdigs_ct (v : Value) (l : List (List UInt8)) (hl : l.length < 1048576) (w : World) (hb : Sl (encA 16) (ph w) v l) : Ct Tryd.prog 69 [v] w (fun v zs hs => zs = [] ∧ hs = [.row v 5 1 (Wi.dgs l).length ((Wi.dgs l).map vb)]) := by
 refine fn_enter Tryd.func69 rfl Tryd.ntmps69 lB fun a hF hS => ?_
 have hil := Wi.int_len9 l.length
 have h16 : ∀ i, i < l.length → (l.getD i []).length = 16 := fun i hi => (hb.rep (i := i) (x := l.getD i []) (by simp [hi])).1
 have hbound : ∀ i, (Ls.encT (fun x => x) l i).length ≤ 9 + l.length * 16 := Ls.encT_len (fun x => x) l 16 (fun x hx => by obtain ⟨j, hj, rfl⟩ := List.mem_iff_getElem.1 hx; have := h16 j hj; rw [List.getD_eq_getElem?_getD, List.getElem?_eq_getElem hj] at this; exact Nat.le_of_eq this)
 refine regS hF hS (aQ rfl <| sq_end) fun a w hF hS => ?_
 refine reglS fun K2 hK2 => ?_
 refine lQ hF hS (mQ rfl <| q0 (q_len_sl ty48 hb rfl) <| sq_end) fun a w hF hS => ?_
 refine eQ hF hS rfl (ef_call fn83 rfl (fun w hS => rint_ct _ omQ w )) ?_
 rintro v1 _ _ a w ⟨_, _, rfl, rfl, rfl, rfl⟩ hF hS
 replace hS := nl0_1 hS
 refine lQ hF hS (aQ rfl <| sq_end) fun a w hF hS => ?_
 refine wpList_nil (hK2 _ _ ?_)
 refine k0 ?_; intro K3 hK3
 refine regS hF hS (aQ rfl <| sq_end) fun a w hF hS => ?_
 refine wp_block ?_
 obtain ⟨hs0, hhs0, hS⟩ := hS.oh
 refine wp_loopx (γ := Value × Int) (v1, 0) (fun (u, k) => [(3, u), (4, vi k)]) [(0, _)] (fun (u, k) => (hs0.set 0 (.row u 5 1 (Ls.encT (fun x => x) l k.toNat).length ((Ls.encT (fun x => x) l k.toNat).map vb)))) (fun (u, k) => 0 ≤ k ∧ k ≤ l.length) (fun (u, k) => (l.length - k).toNat) (hF.sub ⟨rfl, rfl, rfl, trivial⟩) (by subst hhs0; dsimp only; rw [show (0 : Int).toNat = 0 from rfl, Ls.encT_0]; exact hS) (by exact ⟨Int.le_refl _, by omega⟩) ?_
 rintro ⟨u, k⟩ a w hfact hF hS
 subst hhs0; (try dsimp only at hfact hF hS)
 obtain ⟨hk0, hk1⟩ := hfact
 replace hS := nl0_1 hS
 have htl := hbound k.toNat
 refine k0 ?_; intro K5 hK5
 refine regS hF hS (mQ rfl <| mQ rfl <| q0 (q_len_sl ty48 hb rfl) <| q0 (q_lti rfl rfl) <| sq_end) fun a w hF hS => ?_
 refine wp_ifd hF rfl (fun hc1 => ?_) (fun hc1 => ?_)
 ·have h16k := h16 k.toNat omQ
  refine wp_skip ?_
  refine hK5 _ _ ?_
  refine k0 ?_; intro K7 hK7
  refine wp_block ?_
  refine regS hF hS (aQ rfl <| sq_end) fun a w hF hS => ?_
  refine wp_block ?_
  obtain ⟨hs0, hhs0, hS⟩ := hS.oh
  refine wp_loopx (γ := Value × Int) (u, 0) (fun (u2, i) => [(3, u2), (5, vi i)]) [(0, _), (4, _)] (fun (u2, i) => (hs0.set 0 (.row u2 5 1 ((Ls.encT (fun x => x) l k.toNat).length + i.toNat) (((Ls.encT (fun x => x) l k.toNat) ++ (l.getD k.toNat []).take i.toNat).map vb)))) (fun (u2, i) => 0 ≤ i ∧ i ≤ 16) (fun (u2, i) => (16 - i).toNat) (hF.sub ⟨rfl, rfl, rfl, rfl, trivial⟩) (by subst hhs0; simpa using hS) (by simp) ?_
  rintro ⟨u2, i⟩ a w hfact hF hS
  subst hhs0; (try dsimp only at hfact hF hS)
  obtain ⟨hi0, hi1⟩ := hfact
  replace hS := nl0_1 hS
  refine k0 ?_; intro K9 hK9
  refine regS hF hS (mQ rfl <| q0 (q_lti rfl rfl) <| sq_end) fun a w hF hS => ?_
  refine wp_ifd hF rfl (fun hc2 => ?_) (fun hc2 => ?_)
  ·refine wp_skip ?_
   refine hK9 _ _ ?_
   refine k0 ?_; intro K11 hK11
   refine wp_block ?_
   refine regl ?_
   refine lQ hF hS (mQ rfl <| mQ rfl <| mQ rfl <| mQ rfl <| q0 (q_idx_sl ty48 ty29 hb rfl rfl omQ) <| q0 (q_idx_AB ty29 ty5 hb rfl rfl omQ omQ) <| q0 (q_ld_AB1 ty5 hb zin0 rfl rfl omQ omQ) <| sq_end) fun a w hF hS => ?_
   refine eQ hF hS rfl (ef_bsliceA ty39 ty5 rfl rfl oQ deQ rfl rfl) ?_
   rintro v3 _ _ a w ⟨rfl, rfl⟩ hF hS
   replace hS := nl0_2 hS
   refine eQ hF hS rfl (ef_append ty39 ty5 1 rfl rfl rfl (src_row ty39 (k := 0) rfl oQ) bQ rfl deQ) ?_
   rintro v5 _ _ a w ⟨rfl, rfl⟩ hF hS
   replace hS := nl0_2 hS
   refine lQ hF hS (aQ rfl <| sq_end) fun a w hF hS => ?_
   refine wpList_nil (hK11 _ _ ?_)
   refine reg hF hS (mQ rfl <| pQ rfl rfl <| aQ rfl <| sq_end) fun a w hF hS => ?_
   replace hS := hS.keep zQ (sN1)
   refine ⟨(v5, i + 1), ?_, ?_, hF.sub ⟨rfl, rfl, rfl, rfl, trivial⟩, ?_⟩
   ·(try dsimp only); omega
   ·(try dsimp only); omega
   ·have e : ((Ls.encT (fun x => x) l k.toNat) ++ (l.getD k.toNat []).take i.toNat).map vb ++ [vb ((l.getD k.toNat []).getD i.toNat 0)] = ((Ls.encT (fun x => x) l k.toNat) ++ (l.getD k.toNat []).take (i + 1).toNat).map vb := by rw [show (i + 1).toNat = i.toNat + 1 by omega, Ls.take_snoc (0 : UInt8) (show i.toNat < (l.getD k.toNat []).length by omega)]; simp only [List.map_append, List.append_assoc]; rfl
    rw [e, show (Ls.encT (fun x => x) l k.toNat).length + i.toNat + 1 = (Ls.encT (fun x => x) l k.toNat).length + (i + 1).toNat by omega] at hS
    exact hS
  ·obtain rfl : i = 16 := by omega
   rw [show (16 : Int).toNat = 16 from rfl, List.take_of_length_le omQ] at hS
   rw [show (Ls.encT (fun x => x) l k.toNat).length + 16 = (Ls.encT (fun x => x) l k.toNat).length + (l.getD k.toNat []).length by rw [h16k], ← List.length_append, Ls.encT_step (fun x => x) [] l k.toNat omQ, show k.toNat + 1 = (k + 1).toNat by omega] at hS
   refine wp_exit ?_
   refine hK7 _ _ ?_
   refine reg hF hS (mQ rfl <| pQ rfl rfl <| aQ rfl <| sq_end) fun a w hF hS => ?_
   refine ⟨(u2, k + 1), ?_, ?_, hF.sub ⟨rfl, rfl, rfl, trivial⟩, ?_⟩
   ·(try dsimp only); omega
   ·(try dsimp only); omega
   ·exact hS
 ·obtain rfl : k = l.length := by omega
  rw [Int.toNat_natCast, Ls.encT_all, dgs_def] at hS
  refine wp_exit ?_
  refine hK3 _ _ ?_
  refine regS hF hS (mQ rfl <| aQ rfl <| sq_end) fun a w hF hS => ?_
  refine wp_ret ?_
  exact fn_ret (rs := [.tmp 2]) rfl hF hS (vs := [_]) ⟨rfl, trivial⟩ zQ sQ ⟨rfl, rfl⟩
def fewN (ps : List (List UInt8)) (i : Nat) : Nat := ps.length + (ps.take i).flatten.length
def fewAll (ps : List (List UInt8)) : Bool := decide (fewN ps ps.length ≤ 2000)
end
section
theorem fn17 : FnOk Tryd.prog 17 := fQ Tryd.func17
theorem arnd_ct (n m : Int) (hm : 1 ≤ m) (hn : -9223372036854775808 ≤ n ∧ n ≤ 9223372036854775807) (w : World) : Ct Tryd.prog 17 [vi n, vi m] w (fun r _ _ => r = vi (Gu.arnd n m)) := by
 refine fn_enter Tryd.func17 rfl Tryd.ntmps17 lB fun a hF hS => ?_
 refine regS hF hS (aQ rfl <| sq_end) fun a w hF hS => ?_
 obtain ⟨hs0, hhs0, hS⟩ := hS.oh
 refine wp_cutx (γ := Int) (fun (c : Int) => [(0, vi c)]) [(1, _)] (fun (c : Int) => hs0) (fun (c : Int) => c = (if n < 0 then -(n + 1) else n) ∧ 0 ≤ c) (hF.sub ⟨rfl, trivial⟩) hS ?_ ?_
 ·subst hhs0
  refine regS hF hS (mQ rfl <| q0 (q_lti rfl rfl) <| sq_end) fun a w hF hS => ?_
  refine wp_ifd hF rfl (fun hc1 => ?_) (fun hc1 => ?_)
  ·refine reg hF hS (mQ rfl <| pQ rfl rfl <| q0 (q_negi rfl omQ) <| aQ rfl <| sq_end) fun a w hF hS => ?_
   refine ⟨(-(n + 1)), ?_, hF.sub ⟨rfl, rfl, trivial⟩, ?_⟩
   ·exact ⟨by rw [if_pos hc1], by omega⟩
   ·exact hS
  ·refine wp_skip ?_
   refine ⟨(n), ?_, hF.sub ⟨rfl, rfl, trivial⟩, ?_⟩
   ·exact ⟨by rw [if_neg hc1], by omega⟩
   ·exact hS
 rintro c a w hfact hF hS
 subst hhs0; (try dsimp only at hfact hF hS)
 obtain ⟨hc, hc0⟩ := hfact
 replace hS : St _ [] [] _ := hS
 refine regS hF hS (mQ rfl <| mQ rfl <| q0 (q_remi rfl rfl omQ) <| aQ rfl <| sq_end) fun a w hF hS => ?_
 refine wp_ret ?_
 exact fn_ret (rs := [.tmp 4]) rfl hF hS (vs := [_]) ⟨rfl, trivial⟩ zQ zQ (by subst hc; rfl)
theorem at_ct (v : Value) (l : List Int) (i m : Int) (hm : 1 ≤ m) (w : World) (hb : Sl Go.Fw.encI (ph w) v l) : Ct Tryd.prog 48 [v, vi i, vi m] w (fun r _ _ => r = vi (Gu.atN l i m)) := by
 refine fn_enter Tryd.func48 rfl Tryd.ntmps48 lB fun a hF hS => ?_
 have hbl := hb.1
 refine regS hF hS (aQ rfl <| sq_end) fun a w hF hS => ?_
 refine k0 ?_; intro K2 hK2
 refine reglS fun K3 hK3 => ?_
 refine lQ hF hS (mQ rfl <| q0 (q_lti rfl rfl) <| mQ rfl <| sq_end) fun a w hF hS => ?_
 refine wpl_or 2 9 4 hF hS rfl rfl rfl rfl rfl (fun hg => have hg := (by first | exact of_decide_eq_false hg | exact hg); sq_go 9 rfl rfl rfl (q_move rfl) <| sq_go 9 rfl rfl rfl (q_move rfl) <| sq_go 9 rfl rfl rfl (q_len_sl ty22 hb rfl) <| sq_go 9 rfl rfl rfl (q_gei rfl rfl) <| sq_end) rfl rfl fun a w hF hS => ?_
 refine wpList_nil (hK3 _ _ ?_)
 refine wp_if hF rfl (fun hc1 => ?_) (fun hc1 => ?_)
 ·(try simp only [bS] at hc1)
  refine regS hF hS (aQ rfl <| sq_end) fun a w hF hS => ?_
  refine wp_ret ?_
  exact fn_ret (rs := [.tmp 6]) rfl hF hS (vs := [_]) ⟨rfl, trivial⟩ zQ zQ (by unfold Gu.atN; rw [if_pos (by simpa using hc1)])
 ·(try simp only [bS] at hc1)
  have hir : 0 ≤ i ∧ i < l.length := by simp at hc1; omega
  have hrg := sl_rng hb _ (getD_mem (k := i.toNat) omQ)
  refine wp_skip ?_
  refine hK2 _ _ ?_
  refine regS hF hS (mQ rfl <| mQ rfl <| q0 (q_idx_sl ty22 ty3 hb rfl rfl omQ) <| q0 (q_ld_I ty3 hb zin0 rfl rfl omQ) <| mQ rfl <| q0 (q_call fn17 rfl (fun w hS => arnd_ct _ _ omQ omQ w ) hI) <| aQ rfl <| sq_end) fun a w hF hS => ?_
  refine wp_ret ?_
  exact fn_ret (rs := [.tmp 6]) rfl hF hS (vs := [_]) ⟨rfl, trivial⟩ zQ zQ (by unfold Gu.atN; rw [if_neg omQ])
end
section
theorem ty24 : Tf Tryd.prog 24 (.slice 75) 1 24 (Value.slice none 0 0) := ⟨Tryd.underlying24, by kernel_rfl⟩
theorem ty33 : Tf Tryd.prog 33 (.slice 41) 1 24 (Value.slice none 0 0) := ⟨Tryd.underlying33, by kernel_rfl⟩
theorem ty41 : Tf Tryd.prog 41 (.struct #[⟨ "Key", 9, 0, false, "", "", 0⟩, ⟨ "Value", 9, 1, false, "", "", 16⟩]) 2 32 (.agg ([Value.string ⟨(List.nil : List UInt8).toArray⟩, Value.string ⟨(List.nil : List UInt8).toArray⟩]).toArray) := ⟨Tryd.underlying41, by kernel_rfl⟩
theorem ty75 : Tf Tryd.prog 75 (.struct #[⟨ "Key", 9, 0, false, "", "", 0⟩, ⟨ "Value", 9, 1, false, "", "", 16⟩]) 2 32 (.agg ([Value.string ⟨(List.nil : List UInt8).toArray⟩, Value.string ⟨(List.nil : List UInt8).toArray⟩]).toArray) := ⟨Tryd.underlying75, by kernel_rfl⟩
theorem fn53 : FnOk Tryd.prog 53 := fQ Tryd.func53
theorem fn54 : FnOk Tryd.prog 54 := fQ Tryd.func54
theorem fn87 : FnOk Tryd.prog 87 := fQ Tryd.func87
theorem fn88 : FnOk Tryd.prog 88 := fQ Tryd.func88
theorem fn89 : FnOk Tryd.prog 89 := fQ Tryd.func89
theorem fn90 : FnOk Tryd.prog 90 := fQ Tryd.func90
theorem fn107 : FnOk Tryd.prog 107 := fQ Tryd.func107
attribute [local irreducible] Sha.sum Sha.mac Sha.ofD Wi.int Wi.ints Wi.bytes Sha.inp Mk.half Lib.compareBytes
theorem cmpstr_ct (a b : List UInt8) (w : World) : Ct Tryd.prog 107 [vs a, vs b] w (fun r _ _ => r = vi (Lib.compareBytes a b)) := by
 refine fn_enter Tryd.func107 rfl Tryd.ntmps107 lB fun a hF hS => ?_
 refine regS hF hS (aQ rfl <| sq_end) fun a w hF hS => ?_
 refine regS hF hS (mQ rfl <| mQ rfl <| q0 (q_cmps Tryd.func114 kQ rfl kQ kQ rfl rfl) <| aQ rfl <| sq_end) fun a w hF hS => ?_
 refine wp_ret ?_
 exact fn_ret (rs := [.tmp 4]) rfl hF hS (vs := [_]) ⟨rfl, trivial⟩ zQ zQ (rfl)
theorem scmp_ct (a b : List UInt8) (w : World) : Ct Tryd.prog 90 [vs a, vs b] w (fun r _ _ => r = vi (Lib.compareBytes a b)) := by
 refine fn_enter Tryd.func90 rfl Tryd.ntmps90 lB fun a hF hS => ?_
 refine regS hF hS (aQ rfl <| sq_end) fun a w hF hS => ?_
 refine regS hF hS (mQ rfl <| mQ rfl <| q0 (q_call fn107 rfl (fun w hS => cmpstr_ct _ _ w ) hI) <| aQ rfl <| sq_end) fun a w hF hS => ?_
 refine wp_ret ?_
 exact fn_ret (rs := [.tmp 4]) rfl hF hS (vs := [_]) ⟨rfl, trivial⟩ zQ zQ (rfl)
theorem from1_ct (x : Mk.Lf) (k : List UInt8) (w : World) : Ct Tryd.prog 89 [.agg [vs x.1, vs x.2].toArray, vs k] w (fun r _ _ => r = vi (Lib.compareBytes x.1 k)) := by
 refine fn_enter Tryd.func89 rfl Tryd.ntmps89 lB fun a hF hS => ?_
 refine reglS fun K1 hK1 => ?_
 refine eQ hF hS rfl (ef_boxA rfl) ?_
 rintro _ _ _ a w ⟨b1, rfl, rfl, rfl⟩ hF hS
 refine lQ hF hS (aQ rfl <| sq_end) fun a w hF hS => ?_
 refine wpList_nil (hK1 _ _ ?_)
 refine regS hF hS (q0 (q_fieldAddr ty41 rfl rfl (s' := 0) kQ) <| q0 (q_ld_blk1 ty9 0 rfl rfl rfl rfl) <| mQ rfl <| q0 (q_call fn90 rfl (fun w hS => scmp_ct _ _ w ) hI) <| aQ rfl <| sq_end) fun a w hF hS => ?_
 refine wp_ret ?_
 exact fn_ret (rs := [.tmp 4]) rfl hF hS (vs := [_]) ⟨rfl, trivial⟩ zQ zQ (rfl)
theorem valid1_ct (x : Mk.Lf) (w : World) : Ct Tryd.prog 54 [.agg [vs x.1, vs x.2].toArray] w (fun r _ _ => r = .bool (Mk.bigB x)) := by
 refine fn_enter Tryd.func54 rfl Tryd.ntmps54 lB fun a hF hS => ?_
 refine reglS fun K1 hK1 => ?_
 refine eQ hF hS rfl (ef_boxA rfl) ?_
 rintro _ _ _ a w ⟨b1, rfl, rfl, rfl⟩ hF hS
 refine lQ hF hS (aQ rfl <| sq_end) fun a w hF hS => ?_
 refine wpList_nil (hK1 _ _ ?_)
 refine reglS fun K2 hK2 => ?_
 refine lQ hF hS (q0 (q_fieldAddr ty41 rfl rfl (s' := 0) kQ) <| q0 (q_ld_blk1 ty9 0 rfl rfl rfl rfl) <| q0 (q_len_s ty9 rfl) <| q0 (q_gti rfl rfl) <| mQ rfl <| sq_end) fun a w hF hS => ?_
 refine wpl_or 4 7 4 hF hS rfl rfl rfl rfl rfl (fun hg => have hg := (by first | exact of_decide_eq_false hg | exact hg); sq_go 7 rfl rfl rfl (q_fieldAddr ty41 rfl rfl (s' := 0) kQ) <| sq_go 7 rfl rfl rfl (q_ld_blk1 ty9 0 rfl rfl rfl rfl) <| sq_go 7 rfl rfl rfl (q_len_s ty9 rfl) <| sq_go 7 rfl rfl rfl (q_gti rfl rfl) <| sq_end) rfl rfl fun a w hF hS => ?_
 refine lQ hF hS (aQ rfl <| sq_end) fun a w hF hS => ?_
 refine wpList_nil (hK2 _ _ ?_)
 refine wp_ret ?_
 exact fn_ret (rs := [.tmp 2]) rfl hF hS (vs := [_]) ⟨rfl, trivial⟩ zQ zQ (by rw [← Mk.big_eq])
theorem ixfL_ct (v : Value) (ls : List Mk.Lf) (w : World) (hb : Sl encF (ph w) v ls) : Ct Tryd.prog 87 [v, .func (.func 54) (List.nil : List Value).toArray (List.nil : List Value).toArray] w (fun r _ _ => r = vi (Mk.ixF Mk.bigB ls)) := by
 refine fn_enter Tryd.func87 rfl Tryd.ntmps87 lB fun a hF hS => ?_
 have hbl := hb.1
 refine regS hF hS (aQ rfl <| sq_end) fun a w hF hS => ?_
 refine k0 ?_; intro K2 hK2
 refine regS hF hS (mQ rfl <| q0 (q_len_sl ty33 hb rfl) <| mQ rfl <| sq_end) fun a w hF hS => ?_
 refine wp_block ?_
 obtain ⟨hs0, hhs0, hS⟩ := hS.oh
 refine wp_loopx (γ := Int) (0) (fun (i : Int) => [(8, vi i)]) [(0, _), (1, _), (7, _)] (fun (i : Int) => hs0) (fun (i : Int) => 0 ≤ i ∧ i ≤ ls.length ∧ ∀ j, j < i.toNat → Mk.bigB (ls.getD j kv0) = false) (fun (i : Int) => (ls.length - i).toNat) (hF.sub ⟨rfl, rfl, rfl, rfl, trivial⟩) (by subst hhs0; exact hS) (by exact ⟨Int.le_refl _, by omega, fun j hj => absurd hj (by simp)⟩) ?_
 rintro i a w hfact hF hS
 subst hhs0; (try dsimp only at hfact hF hS)
 obtain ⟨hi0, hi1, hno⟩ := hfact
 replace hS : St _ [] [] _ := hS
 refine regS hF hS (q0 (q_lti rfl rfl) <| sq_end) fun a w hF hS => ?_
 refine k0 ?_; intro K5 hK5
 refine wp_ifd hF rfl (fun hc1 => ?_) (fun hc1 => ?_)
 ·refine wp_skip ?_
  refine hK5 _ _ ?_
  refine k0 ?_; intro K6 hK6
  refine wp_block ?_
  refine regS hF hS (mQ rfl <| aQ rfl <| sq_end) fun a w hF hS => ?_
  refine regS hF hS (mQ rfl <| mQ rfl <| mQ rfl <| q0 (q_idx_sl ty33 ty41 hb rfl rfl omQ) <| q0 (q_ld_F ty41 hb zin0 rfl rfl omQ) <| q0 (q_callv fn54 rfl rfl (by exact fun w hS => valid1_ct (ls.getD i.toNat kv0) w ) hI) <| sq_end) fun a w hF hS => ?_
  refine wp_if hF rfl (fun hc2 => ?_) (fun hc2 => ?_)
  ·refine k0 ?_; intro K9 hK9
   refine reg hF hS (mQ rfl <| aQ rfl <| sq_end) fun a w hF hS => ?_
   refine hK9 _ _ ?_
   refine wp_ret ?_
   exact fn_ret (rs := [.tmp 4]) rfl hF hS (vs := [_]) ⟨rfl, trivial⟩ zQ zQ (by rw [Mk.ixF_at (i := i.toNat) omQ hc2 hno, Int.toNat_of_nonneg hi0])
  ·refine wp_skip ?_
   refine hK6 _ _ ?_
   refine reg hF hS (pQ rfl rfl <| mQ rfl <| sq_end) fun a w hF hS => ?_
   refine ⟨(i + 1), ?_, ?_, hF.sub ⟨rfl, rfl, rfl, rfl, trivial⟩, ?_⟩
   ·(try dsimp only); omega
   ·exact ⟨by omega, by omega, Mk.none_step hi0 hc2 hno⟩
   ·exact hS
 ·refine wp_exit ?_
  refine hK2 _ _ ?_
  refine regS hF hS (aQ rfl <| sq_end) fun a w hF hS => ?_
  refine wp_ret ?_
  exact fn_ret (rs := [.tmp 4]) rfl hF hS (vs := [_]) ⟨rfl, trivial⟩ zQ zQ (by rw [Mk.ixF_no (fun j hj => hno j omQ)])
theorem contL_ct (v : Value) (ls : List Mk.Lf) (w : World) (hb : Sl encF (ph w) v ls) : Ct Tryd.prog 53 [v, .func (.func 54) (List.nil : List Value).toArray (List.nil : List Value).toArray] w (fun r _ _ => r = .bool (ls.any Mk.bigB)) := by
 refine fn_enter Tryd.func53 rfl Tryd.ntmps53 lB fun a hF hS => ?_
 have hbl := hb.1
 refine regS hF hS (aQ rfl <| sq_end) fun a w hF hS => ?_
 refine regS hF hS (mQ rfl <| mQ rfl <| q0 (q_call fn87 rfl (fun w hS => ixfL_ct _ _ w (Sl.mono (hS.le zin0) hb)) hI) <| q0 (q_gei rfl rfl) <| aQ rfl <| sq_end) fun a w hF hS => ?_
 refine wp_ret ?_
 exact fn_ret (rs := [.tmp 4]) rfl hF hS (vs := [_]) ⟨rfl, trivial⟩ zQ zQ (by rw [Mk.ixF_any])
theorem valid_ct (v : Value) (ls : List Mk.Lf) (w : World) (hb : Sl encF (ph w) v ls) : Ct Tryd.prog 15 [v] w (fun r _ _ => r = vi (Mk.vE ls)) := by
 refine fn_enter Tryd.func15 rfl Tryd.ntmps15 lB fun a hF hS => ?_
 have hbl := hb.1
 refine regS hF hS (aQ rfl <| sq_end) fun a w hF hS => ?_
 refine k0 ?_; intro K2 hK2
 refine reglS fun K3 hK3 => ?_
 refine lQ hF hS (mQ rfl <| q0 (q_len_sl ty33 hb rfl) <| q0 (q_gti rfl rfl) <| mQ rfl <| sq_end) fun a w hF hS => ?_
 refine wpl_or 3 7 2 hF hS rfl rfl rfl rfl rfl (fun hg => have hg := (by first | exact of_decide_eq_false hg | exact hg); sq_go 7 rfl rfl rfl (q_move rfl) <| sq_go 7 rfl rfl rfl (q_call fn53 rfl (fun w hS => contL_ct _ _ w (Sl.mono (hS.le zin0) hb)) hI) <| sq_end) rfl rfl fun a w hF hS => ?_
 refine wpList_nil (hK3 _ _ ?_)
 refine wp_if hF rfl (fun hc1 => ?_) (fun hc1 => ?_)
 ·(try simp only [bS] at hc1)
  refine regS hF hS (aQ rfl <| sq_end) fun a w hF hS => ?_
  refine wp_ret ?_
  exact fn_ret (rs := [.tmp 2]) rfl hF hS (vs := [_]) ⟨rfl, trivial⟩ zQ zQ (by rw [Mk.vE_4 (by rcases hc1 with h | h; exact .inl omQ; exact .inr h)])
 ·(try simp only [bS] at hc1)
  have hnb : ¬ (4096 < ls.length ∨ ls.any Mk.bigB = true) := fun h => by rcases h with h | h; exact hc1.1 omQ; rw [hc1.2] at h; cases h
  refine wp_skip ?_
  refine hK2 _ _ ?_
  refine k0 ?_; intro K5 hK5
  refine regS hF hS (mQ rfl <| q0 (q_len_sl ty33 hb rfl) <| mQ rfl <| sq_end) fun a w hF hS => ?_
  refine wp_block ?_
  obtain ⟨hs0, hhs0, hS⟩ := hS.oh
  refine wp_loopx (γ := Int) (0) (fun (i : Int) => [(13, vi i)]) [(0, _), (12, _)] (fun (i : Int) => hs0) (fun (i : Int) => 0 ≤ i ∧ i ≤ ls.length ∧ Mk.ascN ls i.toNat = true) (fun (i : Int) => (ls.length - i).toNat) (hF.sub ⟨rfl, rfl, rfl, trivial⟩) (by subst hhs0; exact hS) (by exact ⟨Int.le_refl _, by omega, rfl⟩) ?_
  rintro i a w hfact hF hS
  subst hhs0; (try dsimp only at hfact hF hS)
  obtain ⟨hi0, hi1, has⟩ := hfact
  replace hS : St _ [] [] _ := hS
  refine regS hF hS (q0 (q_lti rfl rfl) <| sq_end) fun a w hF hS => ?_
  refine k0 ?_; intro K8 hK8
  refine wp_ifd hF rfl (fun hc2 => ?_) (fun hc2 => ?_)
  ·refine wp_skip ?_
   refine hK8 _ _ ?_
   refine k0 ?_; intro K9 hK9
   refine wp_block ?_
   refine regS hF hS (mQ rfl <| aQ rfl <| sq_end) fun a w hF hS => ?_
   refine k0 ?_; intro K11 hK11
   refine regq mixed kQ hS ?_
   refine wpq_seg hF (mQ rfl <| q0 (q_gti rfl rfl) <| mQ rfl <| sq_end) fun a hF => ?_
   refine wpq_and 2 18 12 hF rfl rfl rfl rfl rfl (fun hg => have hg := (by first | exact of_decide_eq_true hg | exact hg); sq_go 18 rfl rfl rfl (q_move rfl) <| sq_go 18 rfl rfl rfl (q_move rfl) <| sq_go 18 rfl rfl rfl (q_subi rfl rfl omQ) <| sq_go 18 rfl rfl rfl (q_idx_sl ty33 ty41 hb rfl rfl omQ) <| sq_go 18 rfl rfl rfl (q_fld_F ty41 hb rfl omQ rfl (s' := 0) kQ) <| sq_go 18 rfl rfl rfl (q_ld_FK ty9 hb zin0 rfl rfl omQ) <| sq_go 18 rfl rfl rfl (q_move rfl) <| sq_go 18 rfl rfl rfl (q_move rfl) <| sq_go 18 rfl rfl rfl (q_idx_sl ty33 ty41 hb rfl rfl omQ) <| sq_go 18 rfl rfl rfl (q_fld_F ty41 hb rfl omQ rfl (s' := 0) kQ) <| sq_go 18 rfl rfl rfl (q_ld_FK ty9 hb zin0 rfl rfl omQ) <| sq_go 18 rfl rfl rfl (q_ges rfl rfl) <| sq_end) rfl rfl fun a hF => ?_
   refine wpq_nil ?_
   clear hS; intro w hS
   refine hK11 _ _ ?_
   refine wp_if hF rfl (fun hc3 => ?_) (fun hc3 => ?_)
   ·(try simp only [bS] at hc3)
    refine regS hF hS (aQ rfl <| sq_end) fun a w hF hS => ?_
    refine wp_ret ?_
    exact fn_ret (rs := [.tmp 2]) rfl hF hS (vs := [_]) ⟨rfl, trivial⟩ zQ zQ (by rw [Mk.vE_1 hnb (Mk.asc_stop hc3.1 omQ hc3.2)])
   ·(try simp only [bS] at hc3)
    refine wp_skip ?_
    refine hK9 _ _ ?_
    refine reg hF hS (pQ rfl rfl <| mQ rfl <| sq_end) fun a w hF hS => ?_
    refine ⟨(i + 1), ?_, ?_, hF.sub ⟨rfl, rfl, rfl, trivial⟩, ?_⟩
    ·(try dsimp only); omega
    ·exact ⟨by omega, by omega, Mk.asc_next hi0 has (fun h => hc3.elim (fun h2 => h2 h.1) (fun h2 => by have h3 := h.2; rw [show Mk.lt (ls.getD (i - 1).toNat kv0).1 (ls.getD i.toNat kv0).1 = true from h2] at h3; cases h3))⟩
    ·exact hS
  ·refine wp_exit ?_
   refine hK5 _ _ ?_
   refine regS hF hS (aQ rfl <| sq_end) fun a w hF hS => ?_
   refine wp_ret ?_
   exact fn_ret (rs := [.tmp 2]) rfl hF hS (vs := [_]) ⟨rfl, trivial⟩ zQ zQ (by rw [Mk.vE_0 hnb (by rw [show ls.length = i.toNat by omega]; exact has)])
theorem rvalid_ct (v : Value) (ls : List Mk.Lf) (w : World) (hb : Sl encF (ph w) v ls) : Ct Tryd.prog 16 [v] w (fun r _ _ => r = vi (Mk.vE ls)) := by
 refine fn_enter Tryd.func16 rfl Tryd.ntmps16 lB fun a hF hS => ?_
 have hbl := hb.1
 refine regS hF hS (aQ rfl <| sq_end) fun a w hF hS => ?_
 refine k0 ?_; intro K2 hK2
 refine regS hF hS (mQ rfl <| q0 (q_len_sl ty24 hb rfl) <| q0 (q_gti rfl rfl) <| sq_end) fun a w hF hS => ?_
 refine wp_ifd hF rfl (fun hc1 => ?_) (fun hc1 => ?_)
 ·refine k0 ?_; intro K4 hK4
  refine reg hF hS (aQ rfl <| sq_end) fun a w hF hS => ?_
  refine hK4 _ _ ?_
  refine wp_ret ?_
  exact fn_ret (rs := [.tmp 2]) rfl hF hS (vs := [_]) ⟨rfl, trivial⟩ zQ zQ (by rw [Mk.vE_4 (.inl omQ)])
 ·refine wp_skip ?_
  refine hK2 _ _ ?_
  refine k0 ?_; intro K5 hK5
  refine regS hF hS (aQ rfl <| sq_end) fun a w hF hS => ?_
  refine wp_block ?_
  obtain ⟨hs0, hhs0, hS⟩ := hS.oh
  refine wp_loopx (γ := Int) (0) (fun (i : Int) => [(3, vi i)]) [(0, _)] (fun (i : Int) => hs0) (fun (i : Int) => 0 ≤ i ∧ i ≤ ls.length ∧ ∀ j, j < i.toNat → Mk.bigB (ls.getD j kv0) = false) (fun (i : Int) => (ls.length - i).toNat) (hF.sub ⟨rfl, rfl, trivial⟩) (by subst hhs0; exact hS) (by exact ⟨Int.le_refl _, by omega, fun j hj => absurd hj (by simp)⟩) ?_
  rintro i a w hfact hF hS
  subst hhs0; (try dsimp only at hfact hF hS)
  obtain ⟨hi0, hi1, hno⟩ := hfact
  replace hS : St _ [] [] _ := hS
  refine k0 ?_; intro K7 hK7
  refine regS hF hS (mQ rfl <| mQ rfl <| q0 (q_len_sl ty24 hb rfl) <| q0 (q_lti rfl rfl) <| sq_end) fun a w hF hS => ?_
  refine wp_ifd hF rfl (fun hc2 => ?_) (fun hc2 => ?_)
  ·refine wp_skip ?_
   refine hK7 _ _ ?_
   refine k0 ?_; intro K9 hK9
   refine wp_block ?_
   refine reglS fun K10 hK10 => ?_
   refine lQ hF hS (mQ rfl <| mQ rfl <| q0 (q_idx_sl ty24 ty75 hb rfl rfl omQ) <| q0 (q_fld_F ty75 hb rfl omQ rfl (s' := 0) kQ) <| q0 (q_ld_FK ty9 hb zin0 rfl rfl omQ) <| q0 (q_len_s ty9 rfl) <| q0 (q_gti rfl rfl) <| mQ rfl <| sq_end) fun a w hF hS => ?_
   refine wpl_or 7 21 7 hF hS rfl rfl rfl rfl rfl (fun hg => have hg := (by first | exact of_decide_eq_false hg | exact hg); sq_go 21 rfl rfl rfl (q_move rfl) <| sq_go 21 rfl rfl rfl (q_move rfl) <| sq_go 21 rfl rfl rfl (q_idx_sl ty24 ty75 hb rfl rfl omQ) <| sq_go 21 rfl rfl rfl (q_fld_F ty75 hb rfl omQ rfl (s' := 0) kQ) <| sq_go 21 rfl rfl rfl (q_ld_FV ty9 hb zin0 rfl rfl omQ) <| sq_go 21 rfl rfl rfl (q_len_s ty9 rfl) <| sq_go 21 rfl rfl rfl (q_gti rfl rfl) <| sq_end) rfl rfl fun a w hF hS => ?_
   refine wpList_nil (hK10 _ _ ?_)
   refine wp_if hF rfl (fun hc3 => ?_) (fun hc3 => ?_)
   ·(try simp only [bS] at hc3)
    have hbg : Mk.bigB (ls.getD i.toNat kv0) = true := by rw [← Mk.big_eq]; simpa using hc3
    refine regS hF hS (aQ rfl <| sq_end) fun a w hF hS => ?_
    refine wp_ret ?_
    exact fn_ret (rs := [.tmp 2]) rfl hF hS (vs := [_]) ⟨rfl, trivial⟩ zQ zQ (by rw [Mk.vE_4 (.inr (Mk.any_at omQ hbg))])
   ·(try simp only [bS] at hc3)
    have hbg : Mk.bigB (ls.getD i.toNat kv0) = false := by rw [← Mk.big_eq]; simpa using hc3
    refine wp_skip ?_
    refine hK9 _ _ ?_
    refine reg hF hS (mQ rfl <| pQ rfl rfl <| aQ rfl <| sq_end) fun a w hF hS => ?_
    refine ⟨(i + 1), ?_, ?_, hF.sub ⟨rfl, rfl, trivial⟩, ?_⟩
    ·(try dsimp only); omega
    ·exact ⟨by omega, by omega, Mk.none_step hi0 hbg hno⟩
    ·exact hS
  ·have hnb : ¬ (4096 < ls.length ∨ ls.any Mk.bigB = true) := fun h => by rcases h with h | h; exact hc1 omQ; rw [Mk.any_no (fun j hj => hno j omQ)] at h; cases h
   refine wp_exit ?_
   refine hK5 _ _ ?_
   refine k0 ?_; intro K12 hK12
   refine regS hF hS (aQ rfl <| sq_end) fun a w hF hS => ?_
   refine wp_block ?_
   obtain ⟨hs0, hhs0, hS⟩ := hS.oh
   refine wp_loopx (γ := Int) (1) (fun (i : Int) => [(4, vi i)]) [(0, _)] (fun (i : Int) => hs0) (fun (i : Int) => 1 ≤ i ∧ (i ≤ ls.length ∨ i = 1) ∧ Mk.ascN ls i.toNat = true) (fun (i : Int) => (ls.length - i).toNat) (hF.sub ⟨rfl, rfl, trivial⟩) (by subst hhs0; exact hS) (by exact ⟨Int.le_refl _, .inr rfl, rfl⟩) ?_
   rintro i a w hfact hF hS
   subst hhs0; (try dsimp only at hfact hF hS)
   obtain ⟨hi0, hi1, has⟩ := hfact
   replace hS : St _ [] [] _ := hS
   refine k0 ?_; intro K14 hK14
   refine regS hF hS (mQ rfl <| mQ rfl <| q0 (q_len_sl ty24 hb rfl) <| q0 (q_lti rfl rfl) <| sq_end) fun a w hF hS => ?_
   refine wp_ifd hF rfl (fun hc4 => ?_) (fun hc4 => ?_)
   ·refine wp_skip ?_
    refine hK14 _ _ ?_
    refine k0 ?_; intro K16 hK16
    refine wp_block ?_
    refine regdS mixed kQ hF hS (mQ rfl <| mQ rfl <| q0 (q_idx_sl ty24 ty75 hb rfl rfl omQ) <| q0 (q_fld_F ty75 hb rfl omQ rfl (s' := 0) kQ) <| q0 (q_ld_FK ty9 hb zin0 rfl rfl omQ) <| mQ rfl <| mQ rfl <| dQ rfl rfl <| q0 (q_idx_sl ty24 ty75 hb rfl rfl omQ) <| q0 (q_fld_F ty75 hb rfl omQ rfl (s' := 0) kQ) <| q0 (q_ld_FK ty9 hb zin0 rfl rfl omQ) <| q0 (q_les rfl rfl) <| sq_end) fun a w hF hS => ?_
    refine wp_if hF rfl (fun hc5 => ?_) (fun hc5 => ?_)
    ·have hst : Mk.lt (ls.getD (i - 1).toNat kv0).1 (ls.getD i.toNat kv0).1 = false := by rw [show (Op.bytesLess (ls.getD i.toNat kv0).1 (ls.getD (i - 1).toNat kv0).1 || decide ((ls.getD i.toNat kv0).1 = (ls.getD (i - 1).toNat kv0).1)) = !Mk.lt (ls.getD (i - 1).toNat kv0).1 (ls.getD i.toNat kv0).1 from Mk.le_not] at hc5; simpa using hc5
     refine regS hF hS (aQ rfl <| sq_end) fun a w hF hS => ?_
     refine wp_ret ?_
     exact fn_ret (rs := [.tmp 2]) rfl hF hS (vs := [_]) ⟨rfl, trivial⟩ zQ zQ (by rw [Mk.vE_1 hnb (Mk.asc_stop omQ omQ hst)])
    ·have hst : Mk.lt (ls.getD (i - 1).toNat kv0).1 (ls.getD i.toNat kv0).1 = true := by rw [show (Op.bytesLess (ls.getD i.toNat kv0).1 (ls.getD (i - 1).toNat kv0).1 || decide ((ls.getD i.toNat kv0).1 = (ls.getD (i - 1).toNat kv0).1)) = !Mk.lt (ls.getD (i - 1).toNat kv0).1 (ls.getD i.toNat kv0).1 from Mk.le_not] at hc5; simpa using hc5
     refine wp_skip ?_
     refine hK16 _ _ ?_
     refine reg hF hS (mQ rfl <| pQ rfl rfl <| aQ rfl <| sq_end) fun a w hF hS => ?_
     refine ⟨(i + 1), ?_, ?_, hF.sub ⟨rfl, rfl, trivial⟩, ?_⟩
     ·(try dsimp only); omega
     ·exact ⟨by omega, .inl omQ, Mk.asc_next omQ has (fun h => by rw [hst] at h; exact absurd h.2 (by simp))⟩
     ·exact hS
   ·refine wp_exit ?_
    refine hK12 _ _ ?_
    refine regS hF hS (aQ rfl <| sq_end) fun a w hF hS => ?_
    refine wp_ret ?_
    exact fn_ret (rs := [.tmp 2]) rfl hF hS (vs := [_]) ⟨rfl, trivial⟩ zQ zQ (by rw [Mk.vE_0 hnb (by by_cases h9 : ls.length = 0; rw [h9]; rfl; rw [show ls.length = i.toNat by omega]; exact has)])
theorem bsf_ct (v : Value) (ls : List Mk.Lf) (k : List UInt8) (has : Mk.Asc ls) (hl : ls.length < 1048576) (w : World) (hb : Sl encF (ph w) v ls) : Ct Tryd.prog 88 [v, vs k, .func (.func 89) (List.nil : List Value).toArray (List.nil : List Value).toArray] w (fun r _ _ => r = .tuple [vi (Mk.frm ls k : Int), .bool (Mk.fnd ls k)].toArray) := by
 refine fn_enter Tryd.func88 rfl Tryd.ntmps88 lB fun a hF hS => ?_
 have hbl := hb.1
 refine regS hF hS (aQ rfl <| aQ rfl <| sq_end) fun a w hF hS => ?_
 refine regS hF hS (mQ rfl <| q0 (q_len_sl ty33 hb rfl) <| aQ rfl <| sq_end) fun a w hF hS => ?_
 refine regS hF hS (mQ rfl <| aQ rfl <| aQ rfl <| sq_end) fun a w hF hS => ?_
 refine k0 ?_; intro K4 hK4
 refine wp_block ?_
 obtain ⟨hs0, hhs0, hS⟩ := hS.oh
 refine wp_loopx (γ := Int × Int) (0, ls.length) (fun (i, j) => [(9, vi i), (10, vi j)]) [(0, _), (1, _), (2, _), (8, _)] (fun (i, j) => hs0) (fun (i, j) => 0 ≤ i ∧ i ≤ j ∧ j ≤ ls.length ∧ (∀ t, t < i.toNat → Mk.lt (ls.getD t kv0).1 k = true) ∧ (∀ t, j.toNat ≤ t → t < ls.length → Mk.lt (ls.getD t kv0).1 k = false)) (fun (i, j) => (j - i).toNat) (hF.sub ⟨rfl, rfl, rfl, rfl, rfl, rfl, trivial⟩) (by subst hhs0; exact hS) (by exact ⟨Int.le_refl _, by omega, Int.le_refl _, fun t ht => absurd ht (by simp), fun t h1 h2 => absurd h2 (by simp at h1; omega)⟩) ?_
 rintro ⟨i, j⟩ a w hfact hF hS
 subst hhs0; (try dsimp only at hfact hF hS)
 obtain ⟨hi0, hi1, hi2, hlo, hhi⟩ := hfact
 replace hS : St _ [] [] _ := hS
 refine k0 ?_; intro K5 hK5
 refine regS hF hS (mQ rfl <| mQ rfl <| q0 (q_lti rfl rfl) <| sq_end) fun a w hF hS => ?_
 refine wp_ifd hF rfl (fun hc1 => ?_) (fun hc1 => ?_)
 ·have hm1 : i ≤ (i + j) / 2 := by omega
  have hm2 : (i + j) / 2 < j := by omega
  refine wp_skip ?_
  refine hK5 _ _ ?_
  refine wp_block ?_
  refine k0 ?_; intro K7 hK7
  refine reg hF hS (mQ rfl <| mQ rfl <| pQ rfl rfl <| q0 (q_cv_iq ty3 ty160 rfl) <| q0 (q_shrq rfl rfl omQ) <| q0 (q_cv_qi ty160 ty3 rfl) <| aQ rfl <| sq_end) fun a w hF hS => ?_
  rw [Mk.mid_eq omQ omQ] at hF
  refine hK7 _ _ ?_
  refine regS hF hS (mQ rfl <| mQ rfl <| mQ rfl <| q0 (q_idx_sl ty33 ty41 hb rfl rfl omQ) <| q0 (q_ld_F ty41 hb zin0 rfl rfl omQ) <| mQ rfl <| q0 (q_callv fn89 rfl rfl (by exact fun w hS => from1_ct (ls.getD ((i + j) / 2).toNat kv0) _ w ) hI) <| q0 (q_lti rfl rfl) <| sq_end) fun a w hF hS => ?_
  refine wp_ifd hF rfl (fun hc2 => ?_) (fun hc2 => ?_)
  ·have hlt := Mk.cmp_neg.1 hc2
   refine reg hF hS (mQ rfl <| pQ rfl rfl <| aQ rfl <| sq_end) fun a w hF hS => ?_
   refine ⟨((i + j) / 2 + 1, j), ?_, ?_, hF.sub ⟨rfl, rfl, rfl, rfl, rfl, rfl, trivial⟩, ?_⟩
   ·(try dsimp only); omega
   ·exact ⟨by omega, by omega, hi2, by rw [show ((i + j) / 2 + 1).toNat = ((i + j) / 2).toNat + 1 by omega]; exact Mk.bs_lt has omQ hlt, hhi⟩
   ·exact hS
  ·have hlt : Mk.lt (ls.getD ((i + j) / 2).toNat kv0).1 k = false := by
    cases h9 : Mk.lt (ls.getD ((i + j) / 2).toNat kv0).1 k with
    | false => rfl
    | true => exact absurd (Mk.cmp_neg.2 h9) hc2
   refine reg hF hS (mQ rfl <| aQ rfl <| sq_end) fun a w hF hS => ?_
   refine ⟨(i, (i + j) / 2), ?_, ?_, hF.sub ⟨rfl, rfl, rfl, rfl, rfl, rfl, trivial⟩, ?_⟩
   ·(try dsimp only); omega
   ·exact ⟨hi0, hm1, by omega, hlo, Mk.bs_ge has omQ hlt⟩
   ·exact hS
 ·obtain rfl : i = j := by omega
  have hfr : Mk.frm ls k = i.toNat := Mk.frm_at omQ hlo hhi
  have hie : i = (Mk.frm ls k : Int) := by omega
  refine wp_exit ?_
  refine hK4 _ _ ?_
  refine reglS fun K9 hK9 => ?_
  refine lQ hF hS (mQ rfl <| mQ rfl <| mQ rfl <| q0 (q_lti rfl rfl) <| mQ rfl <| sq_end) fun a w hF hS => ?_
  refine wpl_and 4 39 8 hF hS rfl rfl rfl rfl rfl (fun hg => have hg := (by first | exact of_decide_eq_true hg | exact hg); sq_go 39 rfl rfl rfl (q_move rfl) <| sq_go 39 rfl rfl rfl (q_move rfl) <| sq_go 39 rfl rfl rfl (q_move rfl) <| sq_go 39 rfl rfl rfl (q_idx_sl ty33 ty41 hb rfl rfl omQ) <| sq_go 39 rfl rfl rfl (q_ld_F ty41 hb zin0 rfl rfl omQ) <| sq_go 39 rfl rfl rfl (q_move rfl) <| sq_go 39 rfl rfl rfl (q_callv fn89 rfl rfl (by exact fun w hS => from1_ct (ls.getD i.toNat kv0) _ w ) hI) <| sq_go 39 rfl rfl rfl (q_eqi rfl rfl) <| sq_end) rfl rfl fun a w hF hS => ?_
  refine lQ hF hS (aQ rfl <| aQ rfl <| sq_end) fun a w hF hS => ?_
  refine wpList_nil (hK9 _ _ ?_)
  refine wp_ret ?_
  exact fn_ret (rs := [.tmp 6, .tmp 7]) rfl hF hS (vs := [_, _]) ⟨rfl, rfl, trivial⟩ zQ zQ (by rw [← hie, Mk.fnd_eq hi0 hie])
theorem from_ct (v : Value) (ls : List Mk.Lf) (k : List UInt8) (has : Mk.Asc ls) (hl : ls.length < 1048576) (w : World) (hb : Sl encF (ph w) v ls) : Ct Tryd.prog 56 [v, vs k] w (fun r _ _ => r = vi (Mk.frm ls k : Int)) := by
 refine fn_enter Tryd.func56 rfl Tryd.ntmps56 lB fun a hF hS => ?_
 have hbl := hb.1
 refine regS hF hS (aQ rfl <| sq_end) fun a w hF hS => ?_
 refine regS hF hS (mQ rfl <| mQ rfl <| q0 (q_call fn88 rfl (fun w hS => bsf_ct _ _ _ (by first | with_reducible assumption | omega) (by first | with_reducible assumption | omega) w (Sl.mono (hS.le zin0) hb)) hI) <| mQ rfl <| q0 (q_extract rfl rfl) <| q0 (q_extract rfl rfl) <| aQ rfl <| aQ rfl <| sq_end) fun a w hF hS => ?_
 refine regS hF hS (mQ rfl <| aQ rfl <| sq_end) fun a w hF hS => ?_
 refine wp_ret ?_
 exact fn_ret (rs := [.tmp 4]) rfl hF hS (vs := [_]) ⟨rfl, trivial⟩ zQ zQ (rfl)
theorem middle_ct (a b : Int) (n : Nat) (ha : 0 ≤ a ∧ a ≤ 1099511627776) (hn : b = a + n) (hn2 : 2 ≤ n) (hn9 : n ≤ 1099511627776) (w : World) : Ct Tryd.prog 81 [vi a, vi b] w (fun r _ _ => r = vi (a + Mk.half n)) := by
 refine fn_enter Tryd.func81 rfl Tryd.ntmps81 lB fun a hF hS => ?_
 refine regS hF hS (aQ rfl <| sq_end) fun a w hF hS => ?_
 refine regS hF hS (aQ rfl <| sq_end) fun a w hF hS => ?_
 refine k0 ?_; intro K3 hK3
 refine wp_block ?_
 obtain ⟨hs0, hhs0, hS⟩ := hS.oh
 refine wp_loopx (γ := Int × Nat) (1, 0) (fun (m, j) => [(5, vi m)]) [(0, _), (1, _)] (fun (m, j) => hs0) (fun (m, j) => m = ((2 ^ j : Nat) : Int) ∧ (j = 0 ∨ 2 ^ j < n) ∧ 1 ≤ m ∧ m ≤ 1099511627776) (fun (m, j) => (2 * 1099511627776 - m).toNat) (hF.sub ⟨rfl, rfl, rfl, trivial⟩) (by subst hhs0; exact hS) (by exact ⟨rfl, .inl rfl, by omega, by omega⟩) ?_
 rintro ⟨m, j⟩ a w hfact hF hS
 subst hhs0; (try dsimp only at hfact hF hS)
 obtain ⟨hm, hj, hm1, hm2⟩ := hfact
 replace hS : St _ [] [] _ := hS
 refine k0 ?_; intro K4 hK4
 refine regS hF hS (mQ rfl <| q0 (q_muli rfl rfl omQ) <| mQ rfl <| mQ rfl <| dQ rfl rfl <| q0 (q_lti rfl rfl) <| sq_end) fun a w hF hS => ?_
 refine wp_ifd hF rfl (fun hc1 => ?_) (fun hc1 => ?_)
 ·refine wp_skip ?_
  refine hK4 _ _ ?_
  refine wp_block ?_
  refine reg hF hS (mQ rfl <| q0 (q_muli rfl rfl omQ) <| aQ rfl <| sq_end) fun a w hF hS => ?_
  refine ⟨(m * 2, j + 1), ?_, ?_, hF.sub ⟨rfl, rfl, rfl, trivial⟩, ?_⟩
  ·(try dsimp only); omega
  ·exact ⟨by rw [Nat.pow_succ, hm]; push_cast; omega, .inr (by rw [Nat.pow_succ]; omega), by omega, by omega⟩
  ·exact hS
 ·have hmh := Mk.pow_half hm hj omQ hn2
  refine wp_exit ?_
  refine hK3 _ _ ?_
  refine regS hF hS (mQ rfl <| mQ rfl <| pQ rfl rfl <| aQ rfl <| sq_end) fun a w hF hS => ?_
  refine wp_ret ?_
  exact fn_ret (rs := [.tmp 4]) rfl hF hS (vs := [_]) ⟨rfl, trivial⟩ zQ zQ (by rw [hmh])
theorem half_ct (b : Int) (n : Nat) (hn : b = n) (hn2 : 2 ≤ n) (hn9 : n ≤ 1099511627776) (w : World) : Ct Tryd.prog 106 [vi b] w (fun r _ _ => r = vi (Mk.half n)) := by
 refine fn_enter Tryd.func106 rfl Tryd.ntmps106 lB fun a hF hS => ?_
 refine regS hF hS (aQ rfl <| sq_end) fun a w hF hS => ?_
 refine regS hF hS (aQ rfl <| sq_end) fun a w hF hS => ?_
 refine k0 ?_; intro K3 hK3
 refine wp_block ?_
 obtain ⟨hs0, hhs0, hS⟩ := hS.oh
 refine wp_loopx (γ := Int × Nat) (1, 0) (fun (m, j) => [(3, vi m)]) [(0, _)] (fun (m, j) => hs0) (fun (m, j) => m = ((2 ^ j : Nat) : Int) ∧ (j = 0 ∨ 2 ^ j < n) ∧ 1 ≤ m ∧ m ≤ 1099511627776) (fun (m, j) => (2 * 1099511627776 - m).toNat) (hF.sub ⟨rfl, rfl, trivial⟩) (by subst hhs0; exact hS) (by exact ⟨rfl, .inl rfl, by omega, by omega⟩) ?_
 rintro ⟨m, j⟩ a w hfact hF hS
 subst hhs0; (try dsimp only at hfact hF hS)
 obtain ⟨hm, hj, hm1, hm2⟩ := hfact
 replace hS : St _ [] [] _ := hS
 refine k0 ?_; intro K4 hK4
 refine regS hF hS (mQ rfl <| q0 (q_muli rfl rfl omQ) <| mQ rfl <| q0 (q_lti rfl rfl) <| sq_end) fun a w hF hS => ?_
 refine wp_ifd hF rfl (fun hc1 => ?_) (fun hc1 => ?_)
 ·refine wp_skip ?_
  refine hK4 _ _ ?_
  refine wp_block ?_
  refine reg hF hS (mQ rfl <| q0 (q_muli rfl rfl omQ) <| aQ rfl <| sq_end) fun a w hF hS => ?_
  refine ⟨(2 * m, j + 1), ?_, ?_, hF.sub ⟨rfl, rfl, trivial⟩, ?_⟩
  ·(try dsimp only); omega
  ·exact ⟨by rw [Nat.pow_succ, hm]; push_cast; omega, .inr (by rw [Nat.pow_succ]; omega), by omega, by omega⟩
  ·exact hS
 ·have hmh := Mk.pow_half hm hj omQ hn2
  refine wp_exit ?_
  refine hK3 _ _ ?_
  refine regS hF hS (mQ rfl <| aQ rfl <| sq_end) fun a w hF hS => ?_
  refine wp_ret ?_
  exact fn_ret (rs := [.tmp 2]) rfl hF hS (vs := [_]) ⟨rfl, trivial⟩ zQ zQ (by rw [hmh])
end
end Go.Proofs.YtdojfnigffeblaaDoor
