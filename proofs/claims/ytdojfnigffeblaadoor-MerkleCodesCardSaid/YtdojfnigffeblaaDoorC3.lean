/- A text of a proof over this seat: walks over the program's functions and the plain laws that they need. -/
import Derived.Test.YtdojfnigffeblaaDoorFwA
import Derived.Test.YtdojfnigffeblaaDoorFwD
import Derived.Test.YtdojfnigffeblaaDoorMkA
import Derived.Test.YtdojfnigffeblaaDoorC2
import Derived.Test.YtdojfnigffeblaaDoorLgA
import Derived.Test.YtdojfnigffeblaaDoorFwB
set_option linter.all false
namespace Go.Proofs.YtdojfnigffeblaaDoor
open Go.Fw
set_option maxRecDepth 4000
set_option maxHeartbeats 2000000
section
theorem fn12 : FnOk Tryd.prog 12 := fQ Tryd.func12
theorem fn22 : FnOk Tryd.prog 22 := fQ Tryd.func22
theorem fn24 : FnOk Tryd.prog 24 := fQ Tryd.func24
theorem fn29 : FnOk Tryd.prog 29 := fQ Tryd.func29
theorem fn32 : FnOk Tryd.prog 32 := fQ Tryd.func32
theorem fn55 : FnOk Tryd.prog 55 := fQ Tryd.func55
attribute [local irreducible] Sha.sum Sha.mac Sha.ofD Wi.int Wi.ints Wi.bytes Sha.inp Mk.half Lib.compareBytes Mk.frm Mk.rootD Mk.provE Mk.rangE Mk.rootE Mk.chkE Mk.chkR Mk.shown
theorem five_ct (w : World) : Ct Tryd.prog 55 [] w (SlR encF Mk.fv) := by
 refine fn_enter Tryd.func55 rfl Tryd.ntmps55 lB fun a hF hS => ?_
 refine regS hF hS (aQ rfl <| sq_end) fun a w hF hS => ?_
 refine reglS fun K2 hK2 => ?_
 refine lQ hF hS (q0 (q_buildS1 ty41 2 kQ rfl rfl (oc_cons rfl (oc_cons rfl oc_nil)) rfl rfl) <| q0 (q_buildS1 ty41 2 kQ rfl rfl (oc_cons rfl (oc_cons rfl oc_nil)) rfl rfl) <| q0 (q_buildS1 ty41 2 kQ rfl rfl (oc_cons rfl (oc_cons rfl oc_nil)) rfl rfl) <| q0 (q_buildS1 ty41 2 kQ rfl rfl (oc_cons rfl (oc_cons rfl oc_nil)) rfl rfl) <| q0 (q_buildS1 ty41 2 kQ rfl rfl (oc_cons rfl (oc_cons rfl oc_nil)) rfl rfl) <| sq_end) fun a w hF hS => ?_
 refine eQ hF hS rfl (ef_bsliceC ty33 ty41 [[_, _], [_, _], [_, _], [_, _], [_, _]] rfl rfl (by simp) (oc2_cons (oc_cons rfl (oc_cons rfl oc_nil)) (oc2_cons (oc_cons rfl (oc_cons rfl oc_nil)) (oc2_cons (oc_cons rfl (oc_cons rfl oc_nil)) (oc2_cons (oc_cons rfl (oc_cons rfl oc_nil)) (oc2_cons (oc_cons rfl (oc_cons rfl oc_nil)) oc2_nil))))) deQ rfl rfl) ?_
 rintro v1 _ _ a w ⟨rfl, rfl⟩ hF hS
 replace hS := nl0_1 hS
 refine lQ hF hS (aQ rfl <| sq_end) fun a w hF hS => ?_
 refine wpList_nil (hK2 _ _ ?_)
 refine wp_ret ?_
 obtain ⟨zr, hzr, hS⟩ := St.freezeF (xs := Mk.fv) (hS.rowEq (m' := List.length (Mk.fv)) (cs' := List.flatMap kvC (Mk.fv)) (rfl) (rfl)) rfl deQ (by intro x hx; unfold Mk.fv at hx; simp only [List.mem_cons, List.not_mem_nil, or_false] at hx; rcases hx with rfl | rfl | rfl | rfl | rfl <;> exact ⟨by decide, by decide⟩)
 exact fn_ret (rs := [.tmp 0]) rfl hF hS (vs := [_]) ⟨rfl, trivial⟩ (zs' := [zr]) (hs' := []) (List.singleton_sublist.2 (by simp)) zQ ⟨zr, hzr, rfl, rfl⟩
theorem lives_ct (w : World) {fz1 : Nat × Nat} {bt1 : TypeId} (hg1 : w.heap[2]? = some (.cells (Sha.kc.map vw).toArray bt1 fz1)) : Ct Tryd.prog 19 [] w (fun r _ _ => r = .bool true) := by
 refine fn_enter Tryd.func19 rfl Tryd.ntmps19 lB fun a hF hS => ?_
 obtain ⟨rt, hrt⟩ : ∃ rt, rt = (Mk.rootE Mk.fv).1 := ⟨_, rfl⟩
 have hrl : rt.length = 16 := by rw [hrt, Mk.rootE_n Mk.fv_0]; exact Mk.rootD_16 _ _
 have hr0 : Mk.rootE Mk.fv = (rt, 0) := by rw [hrt, ← Mk.fv_r]
 obtain ⟨pc, hpc⟩ : ∃ p, p = Mk.shown Mk.fv 1 2 := ⟨_, rfl⟩
 have hpcE : Mk.provE Mk.fv [99] = (pc, 0) := by rw [hpc]; exact Mk.fv_c
 have hpc1 : pc.fst = 1 := by rw [hpc]; unfold Mk.shown; rfl
 have hpc2 : pc.lv.length = 1 := by rw [hpc]; unfold Mk.shown; rfl
 have hpc3 : pc.sd.length = 3 := by rw [hpc]; exact Mk.fv_s1
 obtain ⟨px, hpx⟩ : ∃ p, p = Mk.shown Mk.fv 2 4 := ⟨_, rfl⟩
 have hpxE : Mk.provE Mk.fv [101] = (px, 0) := by rw [hpx]; exact Mk.fv_e
 have hpx1 : px.fst = 2 := by rw [hpx]; unfold Mk.shown; rfl
 have hpx2 : px.lv.length = 2 := by rw [hpx]; unfold Mk.shown; rfl
 have hpx3 : px.sd.length = 2 := by rw [hpx]; exact Mk.fv_s2
 obtain ⟨py, hpy⟩ : ∃ p, p = Mk.shown Mk.fv 4 5 := ⟨_, rfl⟩
 have hpyE : Mk.provE Mk.fv [104] = (py, 0) := by rw [hpy]; exact Mk.fv_h
 have hpy1 : py.fst = 4 := by rw [hpy]; unfold Mk.shown; rfl
 have hpy2 : py.lv.length = 1 := by rw [hpy]; unfold Mk.shown; rfl
 have hpy3 : py.sd.length = 1 := by rw [hpy]; exact Mk.fv_s3
 obtain ⟨pz, hpz⟩ : ∃ p, p = Mk.shown Mk.fv 0 4 := ⟨_, rfl⟩
 have hpzE : Mk.rangE Mk.fv [99] [102] = (pz, 0) := by rw [hpz]; exact Mk.fv_g
 have hpz1 : pz.fst = 0 := by rw [hpz]; unfold Mk.shown; rfl
 have hpz2 : pz.lv.length = 4 := by rw [hpz]; unfold Mk.shown; rfl
 have hpz3 : pz.sd.length = 1 := by rw [hpz]; exact Mk.fv_s4
 have hk1 : Mk.chkE rt [99] pc = ([50], true, 0) := by rw [hrt, hpc]; exact Mk.fv_k1
 have hk2 : Mk.chkE rt [101] px = ([], false, 0) := by rw [hrt, hpx]; exact Mk.fv_k2
 have hk3 : Mk.chkE rt [100] px = ([51], true, 0) := by rw [hrt, hpx]; exact Mk.fv_k3
 have hk4 : Mk.chkE rt [99] px = ([], false, 17) := by rw [hrt, hpx]; exact Mk.fv_k4
 obtain ⟨L2, hL2⟩ : ∃ L : List Mk.Lf, L = [([99], [50]), ([100], [51])] := ⟨_, rfl⟩
 have hk5 : Mk.chkR rt [99] [102] pz = (L2, 0) := by rw [hrt, hpz, hL2]; exact Mk.fv_k5
 have hl2 : L2.length = 2 := by rw [hL2]; rfl
 have hg1a : (L2.getD (0 : Int).toNat kv0).1 = [99] := by rw [hL2]; rfl
 have hg2a : (L2.getD (1 : Int).toNat kv0).2 = [51] := by rw [hL2]; rfl
 have hrl2 : (Mk.rootE Mk.fv).1.length = 16 := by rw [← hrt]; exact hrl
 refine regS hF hS (aQ rfl <| sq_end) fun a w hF hS => ?_
 refine reglS fun K2 hK2 => ?_
 refine eQ hF hS rfl (ef_call fn55 rfl (fun w hS => five_ct w )) ?_
 rintro v1 _ _ a w ⟨_, _, rfl, rfl, ⟨z2, hz3, rfl, rfl⟩⟩ hF hS
 replace hS : St _ [_] [] _ := hS
 refine lQ hF hS (aQ rfl <| sq_end) fun a w hF hS => ?_
 refine wpList_nil (hK2 _ _ ?_)
 refine reglS fun K3 hK3 => ?_
 refine lQ hF hS (mQ rfl <| q0 (q_call fn12 rfl (fun w hS => mroot_ct _ _ w (Sl.mono (hS.le (.inr (by simp))) hz3) (hS.ext _ _ hg1)) hI) <| mQ rfl <| q0 (q_extract rfl rfl) <| q0 (q_extract rfl rfl) <| sq_end) fun a w hF hS => ?_
 refine eQ hF hS rfl (ef_allocA ty29) ?_
 rintro _ _ _ a w ⟨b4, rfl, rfl, rfl⟩ hF hS
 rw [show List.replicate 16 (Value.int .u8 0) = (List.replicate 16 (0 : UInt8)).map vb from by rw [List.map_replicate] <;> rfl] at hS
 refine eQ hF hS rfl (ef_storeW ty29 0 rfl rfl rfl rfl bQ oQ bQ) ?_
 rintro _ _ _ a w ⟨rfl, rfl, rfl⟩ hF hS
 replace hS := nl1_1 hS
 refine lQ hF hS (aQ rfl <| sq_end) fun a w hF hS => ?_
 refine wpList_nil ?_
 rw [hr0] at hF hS; (try dsimp only at hF hS)
 refine hK3 _ _ ?_
 refine reglS fun K4 hK4 => ?_
 refine lQ hF hS (mQ rfl <| sq_end) fun a w hF hS => ?_
 refine eQ hF hS rfl (ef_call fn22 rfl (fun w hS => prove_ct _ _ [99] w (Sl.mono (hS.le (.inr (by simp))) hz3) (hS.ext _ _ hg1))) ?_
 rintro _ _ _ a w ⟨_, _, rfl, rfl, ⟨l6, s7, z8, rfl, hl9, hs10, rfl, rfl⟩⟩ hF hS
 rw [hpcE] at hF hl9 hs10; (try dsimp only at hF hl9 hs10)
 replace hS := nl2_1 hS
 refine lQ hF hS (mQ rfl <| q0 (q_extract rfl rfl) <| q0 (q_extract rfl rfl) <| sq_end) fun a w hF hS => ?_
 refine eQ hF hS rfl (ef_allocA ty50) ?_
 rintro _ _ _ a w ⟨b11, rfl, rfl, rfl⟩ hF hS
 refine eQ hF hS rfl (ef_storeW ty50 0 rfl rfl rfl rfl bQ (oc_cons rfl (oc_cons rfl (oc_cons (sl_one' hl9) (oc_cons (sl_one' hs10) oc_nil)))) bQ) ?_
 rintro _ _ _ a w ⟨rfl, rfl, rfl⟩ hF hS
 replace hS : St _ [_, _] [_, _] _ := hS
 refine lQ hF hS (aQ rfl <| sq_end) fun a w hF hS => ?_
 refine wpList_nil (hK4 _ _ ?_)
 refine reglS fun K5 hK5 => ?_
 refine lQ hF hS (mQ rfl <| sq_end) fun a w hF hS => ?_
 refine eQ hF hS rfl (ef_call fn22 rfl (fun w hS => prove_ct _ _ [101] w (Sl.mono (hS.le (.inr (by simp))) hz3) (hS.ext _ _ hg1))) ?_
 rintro _ _ _ a w ⟨_, _, rfl, rfl, ⟨l13, s14, z15, rfl, hl16, hs17, rfl, rfl⟩⟩ hF hS
 rw [hpxE] at hF hl16 hs17; (try dsimp only at hF hl16 hs17)
 replace hS : St _ [_, _, _] [_, _] _ := hS
 refine lQ hF hS (mQ rfl <| q0 (q_extract rfl rfl) <| q0 (q_extract rfl rfl) <| sq_end) fun a w hF hS => ?_
 refine eQ hF hS rfl (ef_allocA ty50) ?_
 rintro _ _ _ a w ⟨b18, rfl, rfl, rfl⟩ hF hS
 refine eQ hF hS rfl (ef_storeW ty50 0 rfl rfl rfl rfl bQ (oc_cons rfl (oc_cons rfl (oc_cons (sl_one' hl16) (oc_cons (sl_one' hs17) oc_nil)))) bQ) ?_
 rintro _ _ _ a w ⟨rfl, rfl, rfl⟩ hF hS
 replace hS := nl3_3 hS
 refine lQ hF hS (aQ rfl <| sq_end) fun a w hF hS => ?_
 refine wpList_nil (hK5 _ _ ?_)
 refine reglS fun K6 hK6 => ?_
 refine lQ hF hS (mQ rfl <| sq_end) fun a w hF hS => ?_
 refine eQ hF hS rfl (ef_call fn22 rfl (fun w hS => prove_ct _ _ [104] w (Sl.mono (hS.le (.inr (by simp))) hz3) (hS.ext _ _ hg1))) ?_
 rintro _ _ _ a w ⟨_, _, rfl, rfl, ⟨l20, s21, z22, rfl, hl23, hs24, rfl, rfl⟩⟩ hF hS
 rw [hpyE] at hF hl23 hs24; (try dsimp only at hF hl23 hs24)
 replace hS : St _ [_, _, _, _] [_, _, _] _ := hS
 refine lQ hF hS (mQ rfl <| q0 (q_extract rfl rfl) <| q0 (q_extract rfl rfl) <| sq_end) fun a w hF hS => ?_
 refine eQ hF hS rfl (ef_allocA ty50) ?_
 rintro _ _ _ a w ⟨b25, rfl, rfl, rfl⟩ hF hS
 refine eQ hF hS rfl (ef_storeW ty50 0 rfl rfl rfl rfl bQ (oc_cons rfl (oc_cons rfl (oc_cons (sl_one' hl23) (oc_cons (sl_one' hs24) oc_nil)))) bQ) ?_
 rintro _ _ _ a w ⟨rfl, rfl, rfl⟩ hF hS
 replace hS : St _ [_, _, _, _] [_, _, _, _] _ := hS
 refine lQ hF hS (aQ rfl <| sq_end) fun a w hF hS => ?_
 refine wpList_nil (hK6 _ _ ?_)
 refine reglS fun K7 hK7 => ?_
 refine lQ hF hS (mQ rfl <| sq_end) fun a w hF hS => ?_
 refine eQ hF hS rfl (ef_call fn24 rfl (fun w hS => range_ct _ _ [99] [102] w (Sl.mono (hS.le (.inr (by simp))) hz3) (hS.ext _ _ hg1))) ?_
 rintro _ _ _ a w ⟨_, _, rfl, rfl, ⟨l27, s28, z29, rfl, hl30, hs31, rfl, rfl⟩⟩ hF hS
 rw [hpzE] at hF hl30 hs31; (try dsimp only at hF hl30 hs31)
 replace hS : St _ [_, _, _, _, _] [_, _, _, _] _ := hS
 refine lQ hF hS (mQ rfl <| q0 (q_extract rfl rfl) <| q0 (q_extract rfl rfl) <| sq_end) fun a w hF hS => ?_
 refine eQ hF hS rfl (ef_allocA ty50) ?_
 rintro _ _ _ a w ⟨b32, rfl, rfl, rfl⟩ hF hS
 refine eQ hF hS rfl (ef_storeW ty50 0 rfl rfl rfl rfl bQ (oc_cons rfl (oc_cons rfl (oc_cons (sl_one' hl30) (oc_cons (sl_one' hs31) oc_nil)))) bQ) ?_
 rintro _ _ _ a w ⟨rfl, rfl, rfl⟩ hF hS
 replace hS : St _ [_, _, _, _, _] [_, _, _, _, _] _ := hS
 refine lQ hF hS (aQ rfl <| sq_end) fun a w hF hS => ?_
 refine wpList_nil (hK7 _ _ ?_)
 refine k0 ?_; intro K8 hK8
 refine reglS fun K9 hK9 => ?_
 refine lQ hF hS (mQ rfl <| q0 (q_nei rfl rfl) <| mQ rfl <| sq_end) fun a w hF hS => ?_
 refine wpl_or 2 54 2 hF hS rfl rfl rfl rfl rfl (fun hg => have hg := (nd_false hg); sq_go 54 rfl rfl rfl (q_move rfl) <| sq_go 54 rfl rfl rfl (q_nei rfl rfl) <| sq_end) rfl rfl fun a w hF hS => ?_
 refine lQ hF hS (mQ rfl <| sq_end) fun a w hF hS => ?_
 refine wpl_or 6 58 2 hF hS rfl rfl rfl rfl rfl (fun hg => have hg := hg; sq_go 58 rfl rfl rfl (q_move rfl) <| sq_go 58 rfl rfl rfl (q_nei rfl rfl) <| sq_end) rfl rfl fun a w hF hS => ?_
 refine lQ hF hS (mQ rfl <| sq_end) fun a w hF hS => ?_
 refine wpl_or 10 62 2 hF hS rfl rfl rfl rfl rfl (fun hg => have hg := hg; sq_go 62 rfl rfl rfl (q_move rfl) <| sq_go 62 rfl rfl rfl (q_nei rfl rfl) <| sq_end) rfl rfl fun a w hF hS => ?_
 refine lQ hF hS (mQ rfl <| sq_end) fun a w hF hS => ?_
 refine wpl_or 14 66 2 hF hS rfl rfl rfl rfl rfl (fun hg => have hg := hg; sq_go 66 rfl rfl rfl (q_move rfl) <| sq_go 66 rfl rfl rfl (q_nei rfl rfl) <| sq_end) rfl rfl fun a w hF hS => ?_
 refine wpList_nil (hK9 _ _ ?_)
 refine wp_if hF rfl (fun hc1 => ?_) (fun hc1 => ?_)
 ·(try simp only [bS] at hc1)
  simp at hc1
 ·(try simp only [bS] at hc1)
  refine wp_skip ?_
  refine hK8 _ _ ?_
  refine k0 ?_; intro K10 hK10
  refine reglS fun K11 hK11 => ?_
  refine lQ hF hS (q0 (q_fieldAddr ty50 rfl rfl (s' := 0) kQ) <| q0 (q_ld_blk1 ty3 3 rfl rfl rfl rfl) <| q0 (q_nei rfl rfl) <| mQ rfl <| sq_end) fun a w hF hS => ?_
  refine wpl_or 3 73 4 hF hS rfl rfl rfl rfl rfl (fun hg => have hg := (nd_false hg); sq_go 73 rfl rfl rfl (q_fieldAddr ty50 rfl rfl (s' := 0) kQ) <| sq_go 73 rfl rfl rfl (q_ld_blk1 ty33 3 rfl rfl rfl rfl) <| sq_go 73 rfl rfl rfl (q_len_sl ty33 hl9 rfl) <| sq_go 73 rfl rfl rfl (q_nei rfl rfl) <| sq_end) rfl rfl fun a w hF hS => ?_
  refine lQ hF hS (mQ rfl <| sq_end) fun a w hF hS => ?_
  refine wpl_or 9 79 4 hF hS rfl rfl rfl rfl rfl (fun hg => have hg := hg; sq_go 79 rfl rfl rfl (q_fieldAddr ty50 rfl rfl (s' := 0) kQ) <| sq_go 79 rfl rfl rfl (q_ld_blk1 ty48 3 rfl rfl rfl rfl) <| sq_go 79 rfl rfl rfl (q_len_sl ty48 hs10 rfl) <| sq_go 79 rfl rfl rfl (q_nei rfl rfl) <| sq_end) rfl rfl fun a w hF hS => ?_
  refine lQ hF hS (mQ rfl <| sq_end) fun a w hF hS => ?_
  refine wpl_or 15 85 3 hF hS rfl rfl rfl rfl rfl (fun hg => have hg := hg; sq_go 85 rfl rfl rfl (q_fieldAddr ty50 rfl rfl (s' := 0) kQ) <| sq_go 85 rfl rfl rfl (q_ld_blk1 ty3 2 rfl rfl rfl rfl) <| sq_go 85 rfl rfl rfl (q_nei rfl rfl) <| sq_end) rfl rfl fun a w hF hS => ?_
  refine lQ hF hS (mQ rfl <| sq_end) fun a w hF hS => ?_
  refine wpl_or 20 90 4 hF hS rfl rfl rfl rfl rfl (fun hg => have hg := hg; sq_go 90 rfl rfl rfl (q_fieldAddr ty50 rfl rfl (s' := 0) kQ) <| sq_go 90 rfl rfl rfl (q_ld_blk1 ty33 2 rfl rfl rfl rfl) <| sq_go 90 rfl rfl rfl (q_len_sl ty33 hl16 rfl) <| sq_go 90 rfl rfl rfl (q_nei rfl rfl) <| sq_end) rfl rfl fun a w hF hS => ?_
  refine lQ hF hS (mQ rfl <| sq_end) fun a w hF hS => ?_
  refine wpl_or 26 96 4 hF hS rfl rfl rfl rfl rfl (fun hg => have hg := hg; sq_go 96 rfl rfl rfl (q_fieldAddr ty50 rfl rfl (s' := 0) kQ) <| sq_go 96 rfl rfl rfl (q_ld_blk1 ty48 2 rfl rfl rfl rfl) <| sq_go 96 rfl rfl rfl (q_len_sl ty48 hs17 rfl) <| sq_go 96 rfl rfl rfl (q_nei rfl rfl) <| sq_end) rfl rfl fun a w hF hS => ?_
  refine lQ hF hS (mQ rfl <| sq_end) fun a w hF hS => ?_
  refine wpl_or 32 102 3 hF hS rfl rfl rfl rfl rfl (fun hg => have hg := hg; sq_go 102 rfl rfl rfl (q_fieldAddr ty50 rfl rfl (s' := 0) kQ) <| sq_go 102 rfl rfl rfl (q_ld_blk1 ty3 1 rfl rfl rfl rfl) <| sq_go 102 rfl rfl rfl (q_nei rfl rfl) <| sq_end) rfl rfl fun a w hF hS => ?_
  refine lQ hF hS (mQ rfl <| sq_end) fun a w hF hS => ?_
  refine wpl_or 37 107 4 hF hS rfl rfl rfl rfl rfl (fun hg => have hg := hg; sq_go 107 rfl rfl rfl (q_fieldAddr ty50 rfl rfl (s' := 0) kQ) <| sq_go 107 rfl rfl rfl (q_ld_blk1 ty48 1 rfl rfl rfl rfl) <| sq_go 107 rfl rfl rfl (q_len_sl ty48 hs24 rfl) <| sq_go 107 rfl rfl rfl (q_nei rfl rfl) <| sq_end) rfl rfl fun a w hF hS => ?_
  refine lQ hF hS (mQ rfl <| sq_end) fun a w hF hS => ?_
  refine wpl_or 43 113 3 hF hS rfl rfl rfl rfl rfl (fun hg => have hg := hg; sq_go 113 rfl rfl rfl (q_fieldAddr ty50 rfl rfl (s' := 0) kQ) <| sq_go 113 rfl rfl rfl (q_ld_blk1 ty3 0 rfl rfl rfl rfl) <| sq_go 113 rfl rfl rfl (q_nei rfl rfl) <| sq_end) rfl rfl fun a w hF hS => ?_
  refine lQ hF hS (mQ rfl <| sq_end) fun a w hF hS => ?_
  refine wpl_or 48 118 4 hF hS rfl rfl rfl rfl rfl (fun hg => have hg := hg; sq_go 118 rfl rfl rfl (q_fieldAddr ty50 rfl rfl (s' := 0) kQ) <| sq_go 118 rfl rfl rfl (q_ld_blk1 ty33 0 rfl rfl rfl rfl) <| sq_go 118 rfl rfl rfl (q_len_sl ty33 hl30 rfl) <| sq_go 118 rfl rfl rfl (q_nei rfl rfl) <| sq_end) rfl rfl fun a w hF hS => ?_
  refine lQ hF hS (mQ rfl <| sq_end) fun a w hF hS => ?_
  refine wpl_or 54 124 4 hF hS rfl rfl rfl rfl rfl (fun hg => have hg := hg; sq_go 124 rfl rfl rfl (q_fieldAddr ty50 rfl rfl (s' := 0) kQ) <| sq_go 124 rfl rfl rfl (q_ld_blk1 ty48 0 rfl rfl rfl rfl) <| sq_go 124 rfl rfl rfl (q_len_sl ty48 hs31 rfl) <| sq_go 124 rfl rfl rfl (q_nei rfl rfl) <| sq_end) rfl rfl fun a w hF hS => ?_
  refine wpList_nil (hK11 _ _ ?_)
  refine wp_if hF rfl (fun hc2 => ?_) (fun hc2 => ?_)
  ·(try simp only [bS] at hc2)
   omega
  ·(try simp only [bS] at hc2)
   refine wp_skip ?_
   refine hK10 _ _ ?_
   refine k0 ?_; intro K12 hK12
   refine reg hF hS (q0 (q_ld_blkW ty29 4 rfl rfl bQ rfl) <| q0 (q_ld_blkW ty50 3 rfl rfl bQ rfl) <| q0 (q_call fn29 rfl (fun w hS => check_ct pc _ _ rt [99] (by first | with_reducible assumption | omega) w (Sl.mono (hS.le (.inr (by simp))) hl9) (Sl.mono (hS.le (.inr (by simp))) hs10) (hS.ext _ _ hg1)) hI) <| mQ rfl <| q0 (q_extract rfl rfl) <| q0 (q_extract rfl rfl) <| q0 (q_extract rfl rfl) <| aQ rfl <| aQ rfl <| aQ rfl <| sq_end) fun a w hF hS => ?_
   rw [hk1] at hF; (try dsimp only at hF)
   refine hK12 _ _ ?_
   refine k0 ?_; intro K13 hK13
   refine reg hF hS (q0 (q_ld_blkW ty29 4 rfl rfl bQ rfl) <| q0 (q_ld_blkW ty50 2 rfl rfl bQ rfl) <| q0 (q_call fn29 rfl (fun w hS => check_ct px _ _ rt [101] (by first | with_reducible assumption | omega) w (Sl.mono (hS.le (.inr (by simp))) hl16) (Sl.mono (hS.le (.inr (by simp))) hs17) (hS.ext _ _ hg1)) hI) <| mQ rfl <| q0 (q_extract rfl rfl) <| q0 (q_extract rfl rfl) <| q0 (q_extract rfl rfl) <| aQ rfl <| aQ rfl <| aQ rfl <| sq_end) fun a w hF hS => ?_
   rw [hk2] at hF; (try dsimp only at hF)
   refine hK13 _ _ ?_
   refine k0 ?_; intro K14 hK14
   refine reg hF hS (q0 (q_ld_blkW ty29 4 rfl rfl bQ rfl) <| q0 (q_ld_blkW ty50 2 rfl rfl bQ rfl) <| q0 (q_call fn29 rfl (fun w hS => check_ct px _ _ rt [100] (by first | with_reducible assumption | omega) w (Sl.mono (hS.le (.inr (by simp))) hl16) (Sl.mono (hS.le (.inr (by simp))) hs17) (hS.ext _ _ hg1)) hI) <| mQ rfl <| q0 (q_extract rfl rfl) <| q0 (q_extract rfl rfl) <| q0 (q_extract rfl rfl) <| aQ rfl <| aQ rfl <| aQ rfl <| sq_end) fun a w hF hS => ?_
   rw [hk3] at hF; (try dsimp only at hF)
   refine hK14 _ _ ?_
   refine k0 ?_; intro K15 hK15
   refine reg hF hS (q0 (q_ld_blkW ty29 4 rfl rfl bQ rfl) <| q0 (q_ld_blkW ty50 2 rfl rfl bQ rfl) <| q0 (q_call fn29 rfl (fun w hS => check_ct px _ _ rt [99] (by first | with_reducible assumption | omega) w (Sl.mono (hS.le (.inr (by simp))) hl16) (Sl.mono (hS.le (.inr (by simp))) hs17) (hS.ext _ _ hg1)) hI) <| mQ rfl <| q0 (q_extract rfl rfl) <| q0 (q_extract rfl rfl) <| q0 (q_extract rfl rfl) <| aQ rfl <| aQ rfl <| aQ rfl <| sq_end) fun a w hF hS => ?_
   rw [hk4] at hF; (try dsimp only at hF)
   refine hK15 _ _ ?_
   refine reglS fun K16 hK16 => ?_
   refine lQ hF hS (q0 (q_ld_blkW ty29 4 rfl rfl bQ rfl) <| q0 (q_ld_blkW ty50 0 rfl rfl bQ rfl) <| sq_end) fun a w hF hS => ?_
   refine eQ hF hS rfl (ef_call fn32 rfl (fun w hS => chkr_ct pz _ _ rt [99] [102] (by first | with_reducible assumption | omega) w (Sl.mono (hS.le (.inr (by simp))) hl30) (Sl.mono (hS.le (.inr (by simp))) hs31) (hS.ext _ _ hg1))) ?_
   rintro _ _ _ a w ⟨_, _, rfl, rfl, ⟨v34, z35, hz36, rfl, rfl, rfl⟩⟩ hF hS
   rw [hk5] at hF hz36; (try dsimp only at hF hz36)
   replace hS : St _ [_, _, _, _, _, _] [_, _, _, _, _] _ := hS
   refine lQ hF hS (mQ rfl <| q0 (q_extract rfl rfl) <| q0 (q_extract rfl rfl) <| aQ rfl <| aQ rfl <| sq_end) fun a w hF hS => ?_
   refine wpList_nil (hK16 _ _ ?_)
   refine reglS fun K17 hK17 => ?_
   refine lQ hF hS (mQ rfl <| q0 (q_eqs (q := [50]) rfl rfl) <| mQ rfl <| sq_end) fun a w hF hS => ?_
   refine wpl_and 2 166 1 hF hS rfl rfl rfl rfl rfl (fun hg => have hg := (by first | exact of_decide_eq_true hg | exact hg); sq_go 166 rfl rfl rfl (q_move rfl) <| sq_end) rfl rfl fun a w hF hS => ?_
   refine lQ hF hS (mQ rfl <| sq_end) fun a w hF hS => ?_
   refine wpl_and 5 169 2 hF hS rfl rfl rfl rfl rfl (fun hg => have hg := hg; sq_go 169 rfl rfl rfl (q_move rfl) <| sq_go 169 rfl rfl rfl (q_eqi rfl rfl) <| sq_end) rfl rfl fun a w hF hS => ?_
   refine lQ hF hS (mQ rfl <| sq_end) fun a w hF hS => ?_
   refine wpl_and 9 173 2 hF hS rfl rfl rfl rfl rfl (fun hg => have hg := hg; sq_go 173 rfl rfl rfl (q_move rfl) <| sq_go 173 rfl rfl rfl (q_not rfl) <| sq_end) rfl rfl fun a w hF hS => ?_
   refine lQ hF hS (mQ rfl <| sq_end) fun a w hF hS => ?_
   refine wpl_and 13 177 2 hF hS rfl rfl rfl rfl rfl (fun hg => have hg := hg; sq_go 177 rfl rfl rfl (q_move rfl) <| sq_go 177 rfl rfl rfl (q_eqi rfl rfl) <| sq_end) rfl rfl fun a w hF hS => ?_
   refine lQ hF hS (mQ rfl <| sq_end) fun a w hF hS => ?_
   refine wpl_and 17 181 2 hF hS rfl rfl rfl rfl rfl (fun hg => have hg := hg; sq_go 181 rfl rfl rfl (q_move rfl) <| sq_go 181 rfl rfl rfl (q_eqs (q := [51]) rfl rfl) <| sq_end) rfl rfl fun a w hF hS => ?_
   refine lQ hF hS (mQ rfl <| sq_end) fun a w hF hS => ?_
   refine wpl_and 21 185 1 hF hS rfl rfl rfl rfl rfl (fun hg => have hg := hg; sq_go 185 rfl rfl rfl (q_move rfl) <| sq_end) rfl rfl fun a w hF hS => ?_
   refine lQ hF hS (mQ rfl <| sq_end) fun a w hF hS => ?_
   refine wpl_and 24 188 2 hF hS rfl rfl rfl rfl rfl (fun hg => have hg := hg; sq_go 188 rfl rfl rfl (q_move rfl) <| sq_go 188 rfl rfl rfl (q_eqi rfl rfl) <| sq_end) rfl rfl fun a w hF hS => ?_
   refine lQ hF hS (mQ rfl <| sq_end) fun a w hF hS => ?_
   refine wpl_and 28 192 2 hF hS rfl rfl rfl rfl rfl (fun hg => have hg := hg; sq_go 192 rfl rfl rfl (q_move rfl) <| sq_go 192 rfl rfl rfl (q_eqi rfl rfl) <| sq_end) rfl rfl fun a w hF hS => ?_
   refine lQ hF hS (mQ rfl <| sq_end) fun a w hF hS => ?_
   refine wpl_and 32 196 2 hF hS rfl rfl rfl rfl rfl (fun hg => have hg := hg; sq_go 196 rfl rfl rfl (q_move rfl) <| sq_go 196 rfl rfl rfl (q_eqi rfl rfl) <| sq_end) rfl rfl fun a w hF hS => ?_
   refine lQ hF hS (mQ rfl <| sq_end) fun a w hF hS => ?_
   refine wpl_and 36 200 3 hF hS rfl rfl rfl rfl rfl (fun hg => have hg := hg; sq_go 200 rfl rfl rfl (q_move rfl) <| sq_go 200 rfl rfl rfl (q_len_sl ty33 hz36 rfl) <| sq_go 200 rfl rfl rfl (q_eqi rfl rfl) <| sq_end) rfl rfl fun a w hF hS => ?_
   refine lQ hF hS (mQ rfl <| sq_end) fun a w hF hS => ?_
   refine wpl_and 41 205 5 hF hS rfl rfl rfl rfl rfl (fun hg => have hg := hg; sq_go 205 rfl rfl rfl (q_move rfl) <| sq_go 205 rfl rfl rfl (q_idx_sl ty33 ty41 hz36 rfl rfl omQ) <| sq_go 205 rfl rfl rfl (q_fld_F ty41 hz36 rfl omQ rfl (s' := 0) kQ) <| sq_go 205 rfl rfl rfl (q_ld_FK ty9 hz36 (.inr (by simp)) rfl rfl omQ) <| sq_go 205 rfl rfl rfl (q_eqs (q := [99]) rfl rfl) <| sq_end) rfl rfl fun a w hF hS => ?_
   refine lQ hF hS (mQ rfl <| sq_end) fun a w hF hS => ?_
   refine wpl_and 48 212 5 hF hS rfl rfl rfl rfl rfl (fun hg => have hg := hg; sq_go 212 rfl rfl rfl (q_move rfl) <| sq_go 212 rfl rfl rfl (q_idx_sl ty33 ty41 hz36 rfl rfl omQ) <| sq_go 212 rfl rfl rfl (q_fld_F ty41 hz36 rfl omQ rfl (s' := 0) kQ) <| sq_go 212 rfl rfl rfl (q_ld_FV ty9 hz36 (.inr (by simp)) rfl rfl omQ) <| sq_go 212 rfl rfl rfl (q_eqs (q := [51]) rfl rfl) <| sq_end) rfl rfl fun a w hF hS => ?_
   refine lQ hF hS (aQ rfl <| sq_end) fun a w hF hS => ?_
   refine wpList_nil (hK17 _ _ ?_)
   refine wp_ret ?_
   exact fn_ret (rs := [.tmp 0]) rfl hF hS (vs := [_]) ⟨rfl, trivial⟩ zQ zQ (by rw [hg1a, hg2a]; simp [hl2])
end
section
theorem fn10 : FnOk Tryd.prog 10 := fQ Tryd.func10
theorem fn19 : FnOk Tryd.prog 19 := fQ Tryd.func19
theorem fn20 : FnOk Tryd.prog 20 := fQ Tryd.func20
attribute [local irreducible] Sha.sum Sha.mac Sha.ofD Wi.int Wi.ints Wi.bytes Sha.inp Mk.half Lib.compareBytes Mk.frm Mk.rootD Mk.provE Mk.rangE Mk.rootE Mk.chkE Mk.chkR Mk.shown Mk.leavesL Mk.keyL Mk.keyB Mk.hasI Mk.inside Mk.bent Mk.coll Mk.vE Mk.rowD Gu.arnd
end
section
theorem fn28 : FnOk Tryd.prog 28 := fQ Tryd.func28
attribute [local irreducible] Sha.sum Sha.mac Sha.ofD Wi.int Wi.ints Wi.bytes Sha.inp Mk.half Lib.compareBytes Mk.frm Mk.rootD Mk.provE Mk.rangE Mk.rootE Mk.chkE Mk.chkR Mk.shown Mk.leavesL Mk.keyL Mk.keyB Mk.hasI Mk.inside Mk.bent Mk.coll Mk.vE Mk.rowD Gu.arnd
end
section
theorem ty63 : Tf Tryd.prog 63 (.slice 54) 1 24 (Value.slice none 0 0) := ⟨Tryd.underlying63, by kernel_rfl⟩
theorem fn23 : FnOk Tryd.prog 23 := fQ Tryd.func23
theorem fn30 : FnOk Tryd.prog 30 := fQ Tryd.func30
attribute [local irreducible] Sha.sum Sha.mac Sha.ofD Wi.int Wi.ints Wi.bytes Sha.inp Mk.half Lib.compareBytes Mk.frm Mk.rootD Mk.provE Mk.rangE Mk.rootE Mk.chkE Mk.chkR Mk.shown Mk.leavesL Mk.keyL Mk.keyB Mk.hasI Mk.inside Mk.bent Mk.coll Mk.vE Mk.rowD Gu.arnd
end
section
attribute [local irreducible] Sha.sum Sha.mac Sha.ofD Wi.int Wi.ints Wi.bytes Sha.inp Mk.half Lib.compareBytes Mk.frm Mk.rootD Mk.provE Mk.rangE Mk.rootE Mk.chkE Mk.chkR Mk.shown Mk.leavesL Mk.keyL Mk.keyB Mk.hasI Mk.inside Mk.bent Mk.coll Mk.vE Mk.rowD Gu.arnd
end
section
theorem fn26 : FnOk Tryd.prog 26 := fQ Tryd.func26
theorem fn27 : FnOk Tryd.prog 27 := fQ Tryd.func27
attribute [local irreducible] Sha.sum Sha.mac Sha.ofD Wi.int Wi.ints Wi.bytes Sha.inp Mk.half Lib.compareBytes Mk.frm Mk.rootD Mk.provE Mk.rangE Mk.rootE Mk.chkE Mk.chkR Mk.shown Mk.leavesL Mk.keyL Mk.keyB Mk.hasI Mk.inside Mk.bent Mk.coll Mk.vE Mk.rowD Gu.arnd
end
section
attribute [local irreducible] Sha.sum Sha.mac Sha.ofD Wi.int Wi.ints Wi.bytes Sha.inp Mk.half Lib.compareBytes Mk.frm Mk.rootD Mk.provE Mk.rangE Mk.rootE Mk.chkE Mk.chkR Mk.shown Mk.leavesL Mk.keyL Mk.keyB Mk.hasI Mk.inside Mk.bent Mk.coll Mk.vE Mk.rowD Gu.arnd
end
section
theorem fn45 : FnOk Tryd.prog 45 := fQ Tryd.func45
theorem fn46 : FnOk Tryd.prog 46 := fQ Tryd.func46
theorem fn66 : FnOk Tryd.prog 66 := fQ Tryd.func66
theorem fn67 : FnOk Tryd.prog 67 := fQ Tryd.func67
theorem fn68 : FnOk Tryd.prog 68 := fQ Tryd.func68
theorem fn69 : FnOk Tryd.prog 69 := fQ Tryd.func69
attribute [local irreducible] Sha.sum Sha.mac Sha.ofD Wi.int Wi.ints Wi.strs Wi.dgs Wi.bytes Sha.inp Mk.half Lib.compareBytes Mk.frm Mk.rootD Mk.flt
theorem rfew_ct (v : Value) (xs : List UInt8) (m : Int) (n : Nat) (hm : m = n) (w : World) (hb : Sl encB (ph w) v xs) : Ct Tryd.prog 44 [v, vi m] w (fun v zs hs => zs = [] ∧ hs = [.row v 5 1 (xs.take n).length ((xs.take n).map vb)]) := by
 refine fn_enter Tryd.func44 rfl Tryd.ntmps44 lB fun a hF hS => ?_
 have hbl := hb.1
 refine regS hF hS (aQ rfl <| sq_end) fun a w hF hS => ?_
 refine k0 ?_; intro K2 hK2
 refine reg hF hS (aQ rfl <| sq_end) fun a w hF hS => ?_
 replace hS := hS.nilRow 5 1
 refine hK2 _ _ ?_
 refine reglS fun K3 hK3 => ?_
 refine lQ hF hS (mQ rfl <| mQ rfl <| mQ rfl <| q0 (q_len_sl ty39 hb rfl) <| mQ rfl <| q0 (q_min rfl rfl) <| q0 (q_slsl_hi ty39 ty5 hb rfl rfl omQ) <| sq_end) fun a w hF hS => ?_
 refine eQ hF hS rfl (ef_append ty39 ty5 0 rfl rfl rfl (src_slV ty39 (Sl.cut hb omQ) zin0) bQ rfl deQ) ?_
 rintro v2 _ _ a w ⟨rfl, rfl⟩ hF hS
 replace hS := nl0_1 hS
 refine lQ hF hS (aQ rfl <| sq_end) fun a w hF hS => ?_
 refine wpList_nil (hK3 _ _ ?_)
 refine wp_ret ?_
 replace hS := hS.rowEq (m' := (xs.take n).length) (cs' := (xs.take n).map vb) (by simp; omega) (by rw [List.nil_append, List.drop_zero]; congr 1; rw [show (min (xs.length : Int) m).toNat = min xs.length n by omega, List.take_eq_take_iff]; omega)
 exact fn_ret (rs := [.tmp 4]) rfl hF hS (vs := [_]) ⟨rfl, trivial⟩ zQ sQ ⟨rfl, rfl⟩
theorem enc_ct (q : Mk.Pf) (lv sv : Value) (hok : Mk.okE q) (w : World) (hb : Sl encF (ph w) lv q.lv) (hsd : Sl (encA 16) (ph w) sv q.sd)  : Ct Tryd.prog 40 [.agg [vi q.fst, vi q.sz, lv, sv].toArray] w (fun v zs hs => zs = [] ∧ hs = [.row v 5 1 (Mk.encPf q).length ((Mk.encPf q).map vb)]) := by
 refine fn_enter Tryd.func40 rfl Tryd.ntmps40 lB fun a hF hS => ?_
 obtain ⟨qf, qs, ql, qd⟩ := q
 dsimp only at hF hb hsd
 have hsm := hok.2.2
 have hs1 : ql.length ≤ 1000 := hsm.1
 have hs2 : qd.length ≤ 1000 := hsm.2.1
 have hst := Mk.okE_str hok
 have hi2 := Mk.ints2 hok
 dsimp only at hst hi2
 have hbl := hb.1
 have hli := Wi.ints_len2 [qf, qs]
 have hls := Wi.strs_len9 (Mk.flt ql) hst.2
 have hld := Wi.dgs_len9 qd hsm.2.2.2
 have hmu : (Mk.flt ql).length * (1000 + 9) ≤ 2000 * (1000 + 9) := Nat.mul_le_mul_right _ hst.1
 have hl2 : [qf, qs].length = 2 := rfl
 refine reglS fun K1 hK1 => ?_
 refine eQ hF hS rfl (ef_boxA rfl) ?_
 rintro _ _ _ a w ⟨b1, rfl, rfl, rfl⟩ hF hS
 refine lQ hF hS (aQ rfl <| sq_end) fun a w hF hS => ?_
 refine wpList_nil (hK1 _ _ ?_)
 refine k0 ?_; intro K2 hK2
 refine reg hF hS (aQ rfl <| sq_end) fun a w hF hS => ?_
 replace hS := hS.nilRow 9 1
 refine hK2 _ _ ?_
 refine k0 ?_; intro K3 hK3
 refine regS hF hS (q0 (q_fieldAddr ty50 rfl rfl (s' := 0) kQ) <| q0 (q_ld_blk1 ty33 1 rfl rfl rfl rfl) <| q0 (q_len_sl ty33 hb rfl) <| mQ rfl <| sq_end) fun a w hF hS => ?_
 refine wp_block ?_
 obtain ⟨hs0, hhs0, hS⟩ := hS.oh
 refine wp_loopx (γ := Value × Int) ((Value.slice none 0 0), 0) (fun (u, i) => [(3, u), (10, vi i)]) [(1, _), (8, _), (9, _)] (fun (u, i) => (hs0.set 0 (.row u 9 1 (Mk.flt (ql.take i.toNat)).length ((Mk.flt (ql.take i.toNat)).map vs)))) (fun (u, i) => 0 ≤ i ∧ i ≤ ql.length) (fun (u, i) => (ql.length - i).toNat) (hF.sub ⟨rfl, rfl, rfl, rfl, rfl, trivial⟩) (by subst hhs0; dsimp only; rw [show (0 : Int).toNat = 0 from rfl, List.take_zero, Mk.flt_nil]; exact hS) (by exact ⟨Int.le_refl _, by omega⟩) ?_
 rintro ⟨u, i⟩ a w hfact hF hS
 subst hhs0; (try dsimp only at hfact hF hS)
 obtain ⟨hi0, hi1⟩ := hfact
 replace hS := nl0_2 hS
 have hfl : (Mk.flt (ql.take i.toNat)).length ≤ 2000 := by rw [Mk.flt_len, List.length_take]; omega
 refine regS hF hS (q0 (q_lti rfl rfl) <| sq_end) fun a w hF hS => ?_
 refine k0 ?_; intro K6 hK6
 refine wp_ifd hF rfl (fun hc1 => ?_) (fun hc1 => ?_)
 ·refine wp_skip ?_
  refine hK6 _ _ ?_
  refine k0 ?_; intro K7 hK7
  refine wp_block ?_
  refine reglS fun K8 hK8 => ?_
  refine lQ hF hS (q0 (q_idx_sl ty33 ty41 hb rfl rfl omQ) <| q0 (q_ld_F ty41 hb zin0 rfl rfl omQ) <| sq_end) fun a w hF hS => ?_
  refine eQ hF hS rfl (ef_allocA ty41) ?_
  rintro _ _ _ a w ⟨b3, rfl, rfl, rfl⟩ hF hS
  refine eQ hF hS rfl (ef_storeW ty41 0 rfl rfl rfl rfl bQ (oc_cons rfl (oc_cons rfl oc_nil)) bQ) ?_
  rintro _ _ _ a w ⟨rfl, rfl, rfl⟩ hF hS
  replace hS := nl0_3 hS
  refine wpList_nil (hK8 _ _ ?_)
  refine regl ?_
  refine lQ hF hS (mQ rfl <| q0 (q_fieldAddr ty41 rfl rfl (s' := 0) kQ) <| q0 (q_ld_blk1 ty9 0 rfl rfl rfl rfl) <| q0 (q_fieldAddr ty41 rfl rfl (s' := 0) kQ) <| q0 (q_ld_blk1 ty9 0 rfl rfl rfl rfl) <| sq_end) fun a w hF hS => ?_
  refine eQ hF hS rfl (ef_bsliceA ty47 ty9 rfl rfl oQ deQ rfl rfl) ?_
  rintro v4 _ _ a w ⟨rfl, rfl⟩ hF hS
  replace hS := nl0_4 hS
  refine eQ hF hS rfl (ef_append ty47 ty9 2 rfl rfl rfl (src_row ty47 (k := 0) rfl oQ) bQ rfl deQ) ?_
  rintro v6 _ _ a w ⟨rfl, rfl⟩ hF hS
  replace hS := nl0_4 hS
  refine lQ hF hS (aQ rfl <| sq_end) fun a w hF hS => ?_
  refine wpList_nil (hK7 _ _ ?_)
  refine reg hF hS (pQ rfl rfl <| mQ rfl <| sq_end) fun a w hF hS => ?_
  replace hS := hS.keep zQ (sN2)
  refine ⟨(v6, i + 1), ?_, ?_, hF.sub ⟨rfl, rfl, rfl, rfl, rfl, trivial⟩, ?_⟩
  ·(try dsimp only); omega
  ·exact ⟨by omega, by omega⟩
  ·(try dsimp only)
   rw [show (i + 1).toNat = i.toNat + 1 by omega, Mk.flt_take ql omQ, List.map_append, List.length_append]
   exact hS
 ·obtain rfl : i = ql.length := by omega
  rw [Int.toNat_natCast, List.take_length] at hS
  obtain ⟨zT, hzT, hS⟩ := St.freezeV (h0 := fun _ => rfl) (f := vs) (p := fun s => s.length ≤ 140737488355328) (xs := (Mk.flt ql)) hS rfl omQ (fun x hx => by have := hst.2 x hx; omega)
  replace hS := nl1_1 hS
  refine wp_exit ?_
  refine hK3 _ _ ?_
  refine reglS fun K9 hK9 => ?_
  refine lQ hF hS (q0 (q_fieldAddr ty50 rfl rfl (s' := 0) kQ) <| q0 (q_ld_blk1 ty3 0 rfl rfl rfl rfl) <| q0 (q_fieldAddr ty50 rfl rfl (s' := 0) kQ) <| q0 (q_ld_blk1 ty3 0 rfl rfl rfl rfl) <| sq_end) fun a w hF hS => ?_
  refine eQ hF hS rfl (ef_bsliceA ty22 ty3 rfl rfl oQ deQ rfl rfl) ?_
  rintro v7 _ _ a w ⟨rfl, rfl⟩ hF hS
  replace hS : St _ [_] [_, _] _ := hS
  refine eQ hF hS rfl (ef_call fn45 rfl (fun w hS => wints_ct _ _ (by rw [hl2]; decide) w (own_slV (f := vi) (xs := [qf, qs]) (hS.ow 0 rfl) (hi2) rfl (by first | decide | omega)))) ?_
  rintro v9 _ _ a w ⟨_, _, rfl, rfl, rfl, rfl⟩ hF hS
  replace hS := nl1_3 hS
  refine lQ hF hS (mQ rfl <| sq_end) fun a w hF hS => ?_
  refine eQ hF hS rfl (ef_call fn46 rfl (fun w hS => wstrs_ct _ _ omQ (fun p hp => by have := hst.2 p hp; omega) w (Sl.mono (hS.le (.inr (by simp))) hzT))) ?_
  rintro v11 _ _ a w ⟨_, _, rfl, rfl, rfl, rfl⟩ hF hS
  replace hS := nl1_4 hS
  refine eQ hF hS rfl (ef_append ty39 ty5 1 rfl rfl rfl (src_row ty39 (k := 0) rfl oQ) bQ rfl deQ) ?_
  rintro v13 _ _ a w ⟨rfl, rfl⟩ hF hS
  replace hS := nl1_4 hS
  refine lQ hF hS (aQ rfl <| sq_end) fun a w hF hS => ?_
  refine wpList_nil (hK9 _ _ ?_)
  refine reglS fun K10 hK10 => ?_
  refine lQ hF hS (mQ rfl <| q0 (q_fieldAddr ty50 rfl rfl (s' := 0) kQ) <| q0 (q_ld_blk1 ty48 3 rfl rfl rfl rfl) <| sq_end) fun a w hF hS => ?_
  refine eQ hF hS rfl (ef_call fn66 rfl (fun w hS => wdigs_ct _ _ omQ w (Sl.mono (hS.le zin0) hsd))) ?_
  rintro v14 _ _ a w ⟨_, _, rfl, rfl, rfl, rfl⟩ hF hS
  replace hS : St _ [_] [_, _, _, _, _] _ := hS
  refine eQ hF hS rfl (ef_append ty39 ty5 2 rfl rfl rfl (src_row ty39 (k := 0) rfl oQ) bQ rfl deQ) ?_
  rintro v16 _ _ a w ⟨rfl, rfl⟩ hF hS
  replace hS : St _ [_] [_, _, _, _, _] _ := hS
  refine lQ hF hS (aQ rfl <| sq_end) fun a w hF hS => ?_
  refine wpList_nil (hK10 _ _ ?_)
  refine wp_ret ?_
  replace hS := hS.perm P0_1
  replace hS := hS.rowEq (m' := (Mk.encPf ⟨qf, qs, ql, qd⟩).length) (cs' := (Mk.encPf ⟨qf, qs, ql, qd⟩).map vb) (by unfold Mk.encPf; dsimp only; rw [List.length_append, List.length_append]) (by unfold Mk.encPf; dsimp only; rw [List.map_append, List.map_append])
  exact fn_ret (rs := [.tmp 2]) rfl hF hS (vs := [_]) ⟨rfl, trivial⟩ (zs' := []) (hs' := [_]) zQ (List.singleton_sublist.2 (List.mem_cons_self ..)) ⟨rfl, rfl⟩
theorem renc_ct (q : Mk.Pf) (lv sv : Value) (hok : Mk.okE q) (w : World) (hb : Sl encF (ph w) lv q.lv) (hsd : Sl (encA 16) (ph w) sv q.sd)  : Ct Tryd.prog 42 [.agg [vi q.fst, vi q.sz, lv, sv].toArray] w (fun v zs hs => zs = [] ∧ hs = [.row v 5 1 (Mk.encPf q).length ((Mk.encPf q).map vb)]) := by
 refine fn_enter Tryd.func42 rfl Tryd.ntmps42 lB fun a hF hS => ?_
 obtain ⟨qf, qs, ql, qd⟩ := q
 dsimp only at hF hb hsd
 have hsm := hok.2.2
 have hs1 : ql.length ≤ 1000 := hsm.1
 have hs2 : qd.length ≤ 1000 := hsm.2.1
 have hst := Mk.okE_str hok
 have hi2 := Mk.ints2 hok
 dsimp only at hst hi2
 have hbl := hb.1
 have hli := Wi.ints_len2 [qf, qs]
 have hls := Wi.strs_len9 (Mk.flt ql) hst.2
 have hld := Wi.dgs_len9 qd hsm.2.2.2
 have hmu : (Mk.flt ql).length * (1000 + 9) ≤ 2000 * (1000 + 9) := Nat.mul_le_mul_right _ hst.1
 have hl2 : [qf, qs].length = 2 := rfl
 refine reglS fun K1 hK1 => ?_
 refine eQ hF hS rfl (ef_boxA rfl) ?_
 rintro _ _ _ a w ⟨b1, rfl, rfl, rfl⟩ hF hS
 refine lQ hF hS (aQ rfl <| sq_end) fun a w hF hS => ?_
 refine wpList_nil (hK1 _ _ ?_)
 refine k0 ?_; intro K2 hK2
 refine reg hF hS (aQ rfl <| sq_end) fun a w hF hS => ?_
 replace hS := hS.nilRow 9 1
 refine hK2 _ _ ?_
 refine k0 ?_; intro K3 hK3
 refine regS hF hS (aQ rfl <| sq_end) fun a w hF hS => ?_
 refine wp_block ?_
 obtain ⟨hs0, hhs0, hS⟩ := hS.oh
 refine wp_loopx (γ := Value × Int) ((Value.slice none 0 0), 0) (fun (u, i) => [(3, u), (4, vi i)]) [(1, _)] (fun (u, i) => (hs0.set 0 (.row u 9 1 (Mk.flt (ql.take i.toNat)).length ((Mk.flt (ql.take i.toNat)).map vs)))) (fun (u, i) => 0 ≤ i ∧ i ≤ ql.length) (fun (u, i) => (ql.length - i).toNat) (hF.sub ⟨rfl, rfl, rfl, trivial⟩) (by subst hhs0; dsimp only; rw [show (0 : Int).toNat = 0 from rfl, List.take_zero, Mk.flt_nil]; exact hS) (by exact ⟨Int.le_refl _, by omega⟩) ?_
 rintro ⟨u, i⟩ a w hfact hF hS
 subst hhs0; (try dsimp only at hfact hF hS)
 obtain ⟨hi0, hi1⟩ := hfact
 replace hS := nl0_2 hS
 have hfl : (Mk.flt (ql.take i.toNat)).length ≤ 2000 := by rw [Mk.flt_len, List.length_take]; omega
 refine k0 ?_; intro K5 hK5
 refine regS hF hS (mQ rfl <| q0 (q_fieldAddr ty54 rfl rfl (s' := 0) kQ) <| q0 (q_ld_blk1 ty24 1 rfl rfl rfl rfl) <| q0 (q_len_sl ty24 hb rfl) <| q0 (q_lti rfl rfl) <| sq_end) fun a w hF hS => ?_
 refine wp_ifd hF rfl (fun hc1 => ?_) (fun hc1 => ?_)
 ·refine wp_skip ?_
  refine hK5 _ _ ?_
  refine k0 ?_; intro K7 hK7
  refine wp_block ?_
  revert hS; revert hF; apply regJ (J := J2 (α0 := Value) (α1 := Value) 42 _ _ _ _ _) #[false, false, false, false, false, false, false, false, false, false, false, false, false, false, false, false] 16 mixed rfl rfl
  ·intro w hF hS
   refine tQ 0 rfl hF (hS.keep sQ zQ) (q_move rfl) fun a hF => ?_
   refine tQ 1 rfl hF (hS.keep sQ zQ) (q_fieldAddr ty54 rfl rfl (s' := 0) kQ) fun a hF => ?_
   refine tQ 2 rfl hF (hS.keep sQ (sN1)) (q_ld_blk1 ty24 0 rfl rfl rfl rfl) fun a hF => ?_
   refine tQ 3 rfl hF (hS.keep sQ zQ) (q_move rfl) fun a hF => ?_
   refine tQ 4 rfl hF (hS.keep sQ zQ) (q_idx_sl ty24 ty75 hb rfl rfl omQ) fun a hF => ?_
   refine tQ 5 rfl hF (hS.keep sQ zQ) (q_fld_F ty75 hb rfl omQ rfl (s' := 0) kQ) fun a hF => ?_
   refine tQ 6 rfl hF (hS.keep sQ zQ) (q_ld_FK ty9 hb zin0 rfl rfl omQ) fun a hF => ?_
   refine tQ 7 rfl hF (hS.keep sQ zQ) (q_fieldAddr ty54 rfl rfl (s' := 0) kQ) fun a hF => ?_
   refine tQ 8 rfl hF (hS.keep sQ (sN1)) (q_ld_blk1 ty24 0 rfl rfl rfl rfl) fun a hF => ?_
   refine tQ 9 rfl hF (hS.keep sQ zQ) (q_move rfl) fun a hF => ?_
   refine tQ 10 rfl hF (hS.keep sQ zQ) (q_idx_sl ty24 ty75 hb rfl rfl omQ) fun a hF => ?_
   refine tQ 11 rfl hF (hS.keep sQ zQ) (q_fld_F ty75 hb rfl omQ rfl (s' := 0) kQ) fun a hF => ?_
   refine tQ 12 rfl hF (hS.keep sQ zQ) (q_ld_FV ty9 hb zin0 rfl rfl omQ) fun a hF => ?_
   refine gQ 13 rfl rfl hF hS rfl (ef_bsliceA ty47 ty9 rfl rfl oQ deQ rfl rfl) ?_
   rintro v_5_13 _ _ a w ⟨rfl, rfl⟩ hF hS
   refine ⟨⟨iQ, iQ, .inr hS.k0, .inr hS.k0, .inr (hS.k1 (sN2)), .inr hS.k0, iQ, iQ, .inr hS.k0, .inr hS.k0, .inr (hS.k1 (sN2)), .inr hS.k0, .inr hS.k0, trivial⟩, ?_⟩
   refine gQ 14 rfl rfl hF hS rfl (ef_append ty47 ty9 1 rfl rfl rfl (src_row ty47 (k := 0) rfl oQ) bQ rfl deQ) ?_
   rintro v_5_14 _ _ a w ⟨rfl, rfl⟩ hF hS
   refine ⟨⟨iQ, iQ, .inr hS.k0, .inr hS.k0, .inr (hS.k1 (sN2)), .inr hS.k0, iQ, iQ, .inr hS.k0, .inr hS.k0, .inr (hS.k1 (sN2)), .inr hS.k0, iQ, trivial⟩, ?_⟩
   refine tQ 15 rfl hF (hS.keep sQ zQ) (q_assign rfl) fun a hF => ?_
   exact goW_done kQ (j2_mk v_5_13 v_5_14 (trivial) (hF.sub (L' := [(1, _), (3, _), (4, _)]) ⟨rfl, rfl, rfl, trivial⟩) hS)
  rintro a w ⟨v_5_13, v_5_14, -, hF, hS⟩
  (try dsimp only at hF hS)
  refine hK7 _ _ ?_
  refine reg hF hS (mQ rfl <| pQ rfl rfl <| aQ rfl <| sq_end) fun a w hF hS => ?_
  replace hS := hS.keep zQ (sN1)
  refine ⟨(v_5_14, i + 1), ?_, ?_, hF.sub ⟨rfl, rfl, rfl, trivial⟩, ?_⟩
  ·(try dsimp only); omega
  ·exact ⟨by omega, by omega⟩
  ·(try dsimp only)
   rw [show (i + 1).toNat = i.toNat + 1 by omega, Mk.flt_take ql omQ, List.map_append, List.length_append]
   exact hS
 ·obtain rfl : i = ql.length := by omega
  rw [Int.toNat_natCast, List.take_length] at hS
  obtain ⟨zT, hzT, hS⟩ := St.freezeV (h0 := fun _ => rfl) (f := vs) (p := fun s => s.length ≤ 140737488355328) (xs := (Mk.flt ql)) hS rfl omQ (fun x hx => by have := hst.2 x hx; omega)
  replace hS := nl1_1 hS
  refine wp_exit ?_
  refine hK3 _ _ ?_
  refine reglS fun K8 hK8 => ?_
  refine lQ hF hS (q0 (q_fieldAddr ty54 rfl rfl (s' := 0) kQ) <| q0 (q_ld_blk1 ty3 0 rfl rfl rfl rfl) <| q0 (q_fieldAddr ty54 rfl rfl (s' := 0) kQ) <| q0 (q_ld_blk1 ty3 0 rfl rfl rfl rfl) <| sq_end) fun a w hF hS => ?_
  refine eQ hF hS rfl (ef_bsliceA ty22 ty3 rfl rfl oQ deQ rfl rfl) ?_
  rintro v3 _ _ a w ⟨rfl, rfl⟩ hF hS
  replace hS : St _ [_] [_, _] _ := hS
  refine eQ hF hS rfl (ef_call fn67 rfl (fun w hS => rints_ct _ _ (by rw [hl2]; decide) w (own_slV (f := vi) (xs := [qf, qs]) (hS.ow 0 rfl) (hi2) rfl (by first | decide | omega)))) ?_
  rintro v5 _ _ a w ⟨_, _, rfl, rfl, rfl, rfl⟩ hF hS
  replace hS := nl1_3 hS
  refine lQ hF hS (mQ rfl <| sq_end) fun a w hF hS => ?_
  refine eQ hF hS rfl (ef_call fn68 rfl (fun w hS => rstrs_ct _ _ omQ (fun p hp => by have := hst.2 p hp; omega) w (Sl.mono (hS.le (.inr (by simp))) hzT))) ?_
  rintro v7 _ _ a w ⟨_, _, rfl, rfl, rfl, rfl⟩ hF hS
  replace hS := nl1_4 hS
  refine eQ hF hS rfl (ef_append ty39 ty5 1 rfl rfl rfl (src_row ty39 (k := 0) rfl oQ) bQ rfl deQ) ?_
  rintro v9 _ _ a w ⟨rfl, rfl⟩ hF hS
  replace hS := nl1_4 hS
  refine lQ hF hS (aQ rfl <| sq_end) fun a w hF hS => ?_
  refine wpList_nil (hK8 _ _ ?_)
  refine reglS fun K9 hK9 => ?_
  refine lQ hF hS (mQ rfl <| q0 (q_fieldAddr ty54 rfl rfl (s' := 0) kQ) <| q0 (q_ld_blk1 ty48 3 rfl rfl rfl rfl) <| sq_end) fun a w hF hS => ?_
  refine eQ hF hS rfl (ef_call fn69 rfl (fun w hS => rdigs_ct _ _ omQ w (Sl.mono (hS.le zin0) hsd))) ?_
  rintro v10 _ _ a w ⟨_, _, rfl, rfl, rfl, rfl⟩ hF hS
  replace hS : St _ [_] [_, _, _, _, _] _ := hS
  refine eQ hF hS rfl (ef_append ty39 ty5 2 rfl rfl rfl (src_row ty39 (k := 0) rfl oQ) bQ rfl deQ) ?_
  rintro v12 _ _ a w ⟨rfl, rfl⟩ hF hS
  replace hS : St _ [_] [_, _, _, _, _] _ := hS
  refine lQ hF hS (aQ rfl <| sq_end) fun a w hF hS => ?_
  refine wpList_nil (hK9 _ _ ?_)
  refine wp_ret ?_
  replace hS := hS.perm P0_1
  replace hS := hS.rowEq (m' := (Mk.encPf ⟨qf, qs, ql, qd⟩).length) (cs' := (Mk.encPf ⟨qf, qs, ql, qd⟩).map vb) (by unfold Mk.encPf; dsimp only; rw [List.length_append, List.length_append]) (by unfold Mk.encPf; dsimp only; rw [List.map_append, List.map_append])
  exact fn_ret (rs := [.tmp 2]) rfl hF hS (vs := [_]) ⟨rfl, trivial⟩ (zs' := []) (hs' := [_]) zQ (List.singleton_sublist.2 (List.mem_cons_self ..)) ⟨rfl, rfl⟩
end
section
theorem fn70 : FnOk Tryd.prog 70 := fQ Tryd.func70
theorem fn71 : FnOk Tryd.prog 71 := fQ Tryd.func71
theorem fn72 : FnOk Tryd.prog 72 := fQ Tryd.func72
theorem fn73 : FnOk Tryd.prog 73 := fQ Tryd.func73
theorem fn75 : FnOk Tryd.prog 75 := fQ Tryd.func75
theorem fn76 : FnOk Tryd.prog 76 := fQ Tryd.func76
theorem fn77 : FnOk Tryd.prog 77 := fQ Tryd.func77
theorem fn99 : FnOk Tryd.prog 99 := fQ Tryd.func99
attribute [local irreducible] Sha.sum Sha.mac Sha.ofD Wi.int Wi.ints Wi.strs Wi.dgs Wi.bytes Wi.getInt Wi.getBytes Wi.getList Wi.getDigs Sha.inp Mk.half Lib.compareBytes Mk.frm Mk.rootD Mk.decPf Mk.prs
/-- A proof, a number and a word of error. -/
def PfD (d : Mk.Pf × Int × Int) : Value → List PH → List Res → Prop := fun r zs hs => ∃ lv sv z, r = .tuple [.agg [vi d.1.fst, vi d.1.sz, lv, sv].toArray, vi d.2.1, vi d.2.2].toArray ∧ Sl encF z lv d.1.lv ∧ Sl (encA 16) z sv d.1.sd ∧ zs = [z] ∧ hs = []
theorem pdd_of {q : Mk.Pf} {m e : Int} {d : Mk.Pf × Int × Int} {r : Value} {zs : List PH} {hs : List Res} (h : ∃ lv sv z, r = .tuple [.agg [vi q.fst, vi q.sz, lv, sv].toArray, vi m, vi e].toArray ∧ Sl encF z lv q.lv ∧ Sl (encA 16) z sv q.sd ∧ zs = [z] ∧ hs = []) (h1 : d = (q, m, e)) : PfD d r zs hs := by subst h1; exact h
def chV (v : Value) (k : Nat) : Value := fullV (slV v 1 (2 * (k : Int)).toNat (2 * (k : Int) + 2).toNat)
theorem chunk_ct (v : Value) (hv : v.oneCell' = true) (n : Int) (hn : 1 ≤ n) (w : World) : Ct Tryd.prog 73 [v, vi n] w (fun r zs hs => ∃ b1 b2, r = .func (.func 99) (List.nil : List Value).toArray [Value.pointer (some ⟨b1, 0, none⟩), Value.pointer (some ⟨b2, 0, none⟩)].toArray ∧ zs = [] ∧ hs = [.blk b2 3 [vi n], .blk b1 47 [v]]) := by
 refine fn_enter Tryd.func73 rfl Tryd.ntmps73 lB fun a hF hS => ?_
 refine reglS fun K1 hK1 => ?_
 refine eQ hF hS rfl (ef_box1 rfl hv) ?_
 rintro _ _ _ a w ⟨b1, rfl, rfl, rfl⟩ hF hS
 refine eQ hF hS rfl (ef_box1 rfl rfl) ?_
 rintro _ _ _ a w ⟨b2, rfl, rfl, rfl⟩ hF hS
 refine lQ hF hS (aQ rfl <| sq_end) fun a w hF hS => ?_
 refine wpList_nil (hK1 _ _ ?_)
 refine k0 ?_; intro K2 hK2
 refine regS hF hS (q0 (q_ld_blk1 ty3 0 rfl rfl rfl rfl) <| q0 (q_lti rfl rfl) <| sq_end) fun a w hF hS => ?_
 refine wp_ifd hF rfl (fun hc1 => ?_) (fun hc1 => ?_)
 ·exfalso; omega
 ·refine wp_skip ?_
  refine hK2 _ _ ?_
  refine regS hF hS (q0 (q_mkf rfl rfl) <| aQ rfl <| sq_end) fun a w hF hS => ?_
  refine wp_ret ?_
  exact fn_ret (rs := [.tmp 4]) rfl hF hS (vs := [_]) ⟨rfl, trivial⟩ sQ sQ ⟨_, _, rfl, rfl, rfl⟩
theorem chunk1_ct (b1 b2 : Nat) (v : Value) (ls : List (List UInt8)) (N : Nat) (hN : ls.length = 2 * N) (Y : Value) (z : PH) (w0 : World) (zsr : List PH) (hsr : List Res) (inv : Nat → Res × Res → Prop) (ra rb : Res) (hz : ZIn w0 zsr z) (hb : Sl Go.Fw.encS z v ls) (h0 : inv 0 (ra, rb)) (hY : ∀ k r, k < N → inv k r → Yd Tryd.prog Y (chV v k) (St w0 zsr (.blk b2 3 [vi 2] :: .blk b1 47 [v] :: r.1 :: r.2 :: hsr)) fun w' => ∃ r', inv (k + 1) r' ∧ St w0 zsr (.blk b2 3 [vi 2] :: .blk b1 47 [v] :: r'.1 :: r'.2 :: hsr) w') : CxH Tryd.prog 99 [Y, Value.pointer (some ⟨b1, 0, none⟩), Value.pointer (some ⟨b2, 0, none⟩)] w0 zsr [.blk b2 3 [vi 2], .blk b1 47 [v], ra, rb] hsr (fun _ zs1 hs1 => zs1 = [] ∧ ∃ r : Res × Res, hs1 = [.blk b2 3 [vi 2], .blk b1 47 [v], r.1, r.2] ∧ inv N r) := by
 refine fn_enterh Tryd.func99 rfl Tryd.ntmps99 lB fun a w hF hS => ?_
 replace hS : St _ (_) (_ :: _ :: _ :: _ :: _) _ := hS
 have hbl := hb.1
 refine regS hF hS (aQ rfl <| sq_end) fun a w hF hS => ?_
 refine wp_block ?_
 obtain ⟨hs0, hhs0, hS⟩ := hS.oh
 refine wp_loopx (γ := (Res × Res) × Nat) ((ra, rb), 0) (fun (rr, k) => [(4, vi (2 * (k : Int)))]) [(0, _), (1, _), (2, _)] (fun (rr, k) => ((hs0.set 2 (rr.1)).set 3 (rr.2))) (fun (rr, k) => k ≤ N ∧ inv k rr) (fun (rr, k) => N - k) (hF.sub ⟨rfl, rfl, rfl, rfl, trivial⟩) (by subst hhs0; exact hS) (by exact ⟨Nat.zero_le _, h0⟩) ?_
 rintro ⟨rr, k⟩ a w hfact hF hS
 subst hhs0; (try dsimp only at hfact hF hS)
 obtain ⟨hk0, hin⟩ := hfact
 replace hS : St _ (_) (_ :: _ :: _ :: _ :: _) _ := hS
 refine k0 ?_; intro K2 hK2
 refine regS hF hS (mQ rfl <| q0 (q_ld_blk1 ty47 1 rfl rfl rfl rfl) <| q0 (q_len_sl ty47 hb rfl) <| q0 (q_lti rfl rfl) <| sq_end) fun a w hF hS => ?_
 refine wp_ifd hF rfl (fun hc1 => ?_) (fun hc1 => ?_)
 ·refine wp_skip ?_
  refine hK2 _ _ ?_
  refine k0 ?_; intro K4 hK4
  refine wp_block ?_
  refine k0 ?_; intro K5 hK5
  refine regd mixed kQ hF hS (q0 (q_ld_blk1 ty3 0 rfl rfl rfl rfl) <| q0 (q_ld_blk1 ty47 1 rfl rfl rfl rfl) <| mQ rfl <| q0 (q_slsl_lo ty47 ty9 hb rfl rfl omQ) <| q0 (q_len_sl ty47 (Sl.cut hb omQ) rfl) <| q0 (q_min rfl rfl) <| aQ rfl <| sq_end) fun a w hF hS => ?_
  have hml : min (2 : Int) (((List.drop (2 * (k : Int)).toNat (List.take ls.length ls)).length : Nat) : Int) = 2 := by rw [List.length_drop, List.length_take]; omega
  rw [hml] at hF
  refine hK5 _ _ ?_
  refine k0 ?_; intro K6 hK6
  refine regY 10 rfl ?_
  refine lQ hF hS (mQ rfl <| q0 (q_ld_blk1 ty47 1 rfl rfl rfl rfl) <| mQ rfl <| mQ rfl <| mQ rfl <| pQ rfl rfl <| mQ rfl <| mQ rfl <| pQ rfl rfl <| q0 (q_slsl_3 ty47 ty9 hb rfl rfl rfl rfl bQ bQ) <| sq_end) fun a w hF hS => ?_
  refine listR ?_
  ·skip
   have hyd := hY k rr omQ hin
   refine ycall (by rfl) rfl hF hS rfl rfl hyd ?_
   rintro a w hF ⟨r2, hin2, hS⟩
   refine yseg rfl hF hS (q0 (q_not rfl) <| sq_end) fun a w hF hS => ?_
   refine wpListIn_nil ?_
   refine hK6 _ _ ?_
   refine wp_if hF rfl (fun h => absurd h (by simp)) (fun _ => ?_)
   refine wp_skip ?_
   refine hK4 _ _ ?_
   refine reg hF hS (mQ rfl <| q0 (q_ld_blk1 ty3 0 rfl rfl rfl rfl) <| pQ rfl rfl <| aQ rfl <| sq_end) fun a w hF hS => ?_
   refine ⟨(r2, k + 1), ?_, ?_, hF.sub ⟨(by show some (vi _) = some (vi _); congr 2 <;> omega), rfl, rfl, rfl, trivial⟩, ?_⟩
   ·(try dsimp only); omega
   ·exact ⟨by omega, hin2⟩
   ·exact hS
 ·obtain rfl : k = N := by omega
  refine wp_exit ?_
  -- falls off the end
  exact fn_fallx rfl hF hS [] [_, _, _, _] sQ sQ ⟨rfl, _, rfl, hin⟩
theorem rdec_ct (v : Value) (xs : List UInt8) (hx : xs.length < 1048576000) (w : World) (hb : Sl encB (ph w) v xs) : Ct Tryd.prog 47 [v] w (PfD (Mk.decPf xs)) := by
 refine fn_enter Tryd.func47 rfl Tryd.ntmps47 lB fun a hF hS => ?_
 have hbl := hb.1
 obtain ⟨A1, an, ae, hA⟩ : ∃ x y z, Wi.getList Wi.getInt xs = (x, y, z) := ⟨_, _, _, rfl⟩
 refine reglS fun K1 hK1 => ?_
 refine eQ hF hS rfl (ef_allocA ty54) ?_
 rintro _ _ _ a w ⟨b1, rfl, rfl, rfl⟩ hF hS
 refine lQ hF hS (aQ rfl <| aQ rfl <| sq_end) fun a w hF hS => ?_
 refine wpList_nil (hK1 _ _ ?_)
 refine reglS fun K2 hK2 => ?_
 refine lQ hF hS (mQ rfl <| sq_end) fun a w hF hS => ?_
 refine eQ hF hS rfl (ef_call fn75 rfl (fun w hS => rgis_ct _ _ omQ w (Sl.mono (hS.le zin0) hb))) ?_
 rintro _ _ _ a w ⟨_, _, rfl, rfl, ⟨v3, z4, rfl, hz5, rfl, rfl⟩⟩ hF hS
 (try simp only [List.take_length] at hF hz5); rw [hA] at hF hz5; (try dsimp only at hF hz5)
 replace hS := nl1_1 hS
 refine lQ hF hS (mQ rfl <| q0 (q_extract rfl rfl) <| q0 (q_extract rfl rfl) <| q0 (q_extract rfl rfl) <| aQ rfl <| aQ rfl <| aQ rfl <| sq_end) fun a w hF hS => ?_
 refine wpList_nil (hK2 _ _ ?_)
 refine k0 ?_; intro K3 hK3
 refine regS hF hS (mQ rfl <| q0 (q_nei rfl rfl) <| sq_end) fun a w hF hS => ?_
 refine wp_ifn hF rfl (fun hc1 => ?_) (fun hc1 => ?_)
 ·refine k0 ?_; intro K5 hK5
  refine regl ?_
  refine lQ hF hS (q0 (q_buildP (places := [(0, 1), (1, 1), (2, 1), (3, 1)]) (cells := [.int .i64 0, .int .i64 0, .slice none 0 0, .slice none 0 0]) ty54 kQ rfl (by rfl)) <| mQ rfl <| sq_end) fun a w hF hS => ?_
  refine eQ hF hS rfl (ef_storeW ty54 0 rfl rfl rfl rfl bQ (oc_cons rfl (oc_cons rfl (oc_cons rfl (oc_cons rfl oc_nil)))) bQ) ?_
  rintro _ _ _ a w ⟨rfl, rfl, rfl⟩ hF hS
  replace hS := nl1_1 hS
  refine lQ hF hS (aQ rfl <| aQ rfl <| sq_end) fun a w hF hS => ?_
  refine wpList_nil (hK5 _ _ ?_)
  refine wp_ret ?_
  replace hS := hS.zone00
  replace hS := nl2_1 hS
  obtain ⟨zu, hzu, hS⟩ := hS.union
  exact fn_ret (rs := [.cell 2 54, .tmp 3, .tmp 4]) rfl hF hS (vs := [_, _, _]) ⟨⟨_, _, _, _, _, _, _, rfl, List.mem_of_getElem? (i := 0) rfl, ty54, .inl ⟨rfl, bQ, rfl⟩⟩, rfl, rfl, trivial⟩ (zs' := [zu]) (hs' := []) (List.singleton_sublist.2 (by simp)) zQ (pdd_of (q := Mk.pf0) ⟨_, _, zu, rfl, sl_nil, sl_nil, rfl, rfl⟩ (Mk.dec_1 hA hc1))
 ·have hae : ae = 0 := by omega
  have hca := Wi.canon_ints (xs := xs) omQ (by rw [hA]; exact hae)
  rw [hA] at hca
  dsimp only at hca
  refine wp_skip ?_
  refine hK3 _ _ ?_
  refine k0 ?_; intro K6 hK6
  refine regS hF hS (mQ rfl <| q0 (q_len_sl ty22 hz5 rfl) <| q0 (q_nei rfl rfl) <| sq_end) fun a w hF hS => ?_
  refine wp_ifn hF rfl (fun hc2 => ?_) (fun hc2 => ?_)
  ·refine k0 ?_; intro K8 hK8
   refine regl ?_
   refine lQ hF hS (q0 (q_buildP (places := [(0, 1), (1, 1), (2, 1), (3, 1)]) (cells := [.int .i64 0, .int .i64 0, .slice none 0 0, .slice none 0 0]) ty54 kQ rfl (by rfl)) <| sq_end) fun a w hF hS => ?_
   refine eQ hF hS rfl (ef_storeW ty54 0 rfl rfl rfl rfl bQ (oc_cons rfl (oc_cons rfl (oc_cons rfl (oc_cons rfl oc_nil)))) bQ) ?_
   rintro _ _ _ a w ⟨rfl, rfl, rfl⟩ hF hS
   replace hS := nl1_1 hS
   refine lQ hF hS (aQ rfl <| aQ rfl <| sq_end) fun a w hF hS => ?_
   refine wpList_nil (hK8 _ _ ?_)
   refine wp_ret ?_
   replace hS := hS.zone00
   replace hS := nl2_1 hS
   obtain ⟨zu, hzu, hS⟩ := hS.union
   exact fn_ret (rs := [.cell 2 54, .tmp 3, .tmp 4]) rfl hF hS (vs := [_, _, _]) ⟨⟨_, _, _, _, _, _, _, rfl, List.mem_of_getElem? (i := 0) rfl, ty54, .inl ⟨rfl, bQ, rfl⟩⟩, rfl, rfl, trivial⟩ (zs' := [zu]) (hs' := []) (List.singleton_sublist.2 (by simp)) zQ (pdd_of (q := Mk.pf0) ⟨_, _, zu, rfl, sl_nil, sl_nil, rfl, rfl⟩ (Mk.dec_2 hA hae omQ))
  ·have hc2 : A1.length = 2 := by omega
   obtain ⟨S1, sn, se, hS9⟩ : ∃ x y z, Wi.getList Wi.getBytes (List.drop an.toNat xs) = (x, y, z) := ⟨_, _, _, rfl⟩
   refine wp_skip ?_
   refine hK6 _ _ ?_
   refine reglS fun K9 hK9 => ?_
   refine lQ hF hS (mQ rfl <| mQ rfl <| q0 (q_slsl_lo ty39 ty5 hb rfl rfl omQ) <| sq_end) fun a w hF hS => ?_
   refine eQ hF hS rfl (ef_call fn76 rfl (fun w hS => rgss_ct _ _ (by rw [List.length_drop, List.length_take]; omega) w (Sl.mono (hS.le zin0) (Sl.cut hb omQ)))) ?_
   rintro _ _ _ a w ⟨_, _, rfl, rfl, ⟨v7, z8, rfl, hz9, rfl, rfl⟩⟩ hF hS
   (try simp only [List.take_length] at hF hz9); rw [hS9] at hF hz9; (try dsimp only at hF hz9)
   replace hS := nl2_1 hS
   refine lQ hF hS (mQ rfl <| q0 (q_extract rfl rfl) <| q0 (q_extract rfl rfl) <| q0 (q_extract rfl rfl) <| aQ rfl <| aQ rfl <| aQ rfl <| sq_end) fun a w hF hS => ?_
   refine wpList_nil (hK9 _ _ ?_)
   refine k0 ?_; intro K10 hK10
   refine regS hF hS (mQ rfl <| q0 (q_nei rfl rfl) <| sq_end) fun a w hF hS => ?_
   refine wp_ifn hF rfl (fun hc3 => ?_) (fun hc3 => ?_)
   ·refine k0 ?_; intro K12 hK12
    refine regl ?_
    refine lQ hF hS (q0 (q_buildP (places := [(0, 1), (1, 1), (2, 1), (3, 1)]) (cells := [.int .i64 0, .int .i64 0, .slice none 0 0, .slice none 0 0]) ty54 kQ rfl (by rfl)) <| mQ rfl <| sq_end) fun a w hF hS => ?_
    refine eQ hF hS rfl (ef_storeW ty54 0 rfl rfl rfl rfl bQ (oc_cons rfl (oc_cons rfl (oc_cons rfl (oc_cons rfl oc_nil)))) bQ) ?_
    rintro _ _ _ a w ⟨rfl, rfl, rfl⟩ hF hS
    replace hS := nl2_1 hS
    refine lQ hF hS (aQ rfl <| aQ rfl <| sq_end) fun a w hF hS => ?_
    refine wpList_nil (hK12 _ _ ?_)
    refine wp_ret ?_
    replace hS := hS.zone00
    replace hS := nl3_1 hS
    obtain ⟨zu, hzu, hS⟩ := hS.union
    exact fn_ret (rs := [.cell 2 54, .tmp 3, .tmp 4]) rfl hF hS (vs := [_, _, _]) ⟨⟨_, _, _, _, _, _, _, rfl, List.mem_of_getElem? (i := 0) rfl, ty54, .inl ⟨rfl, bQ, rfl⟩⟩, rfl, rfl, trivial⟩ (zs' := [zu]) (hs' := []) (List.singleton_sublist.2 (by simp)) zQ (pdd_of (q := Mk.pf0) ⟨_, _, zu, rfl, sl_nil, sl_nil, rfl, rfl⟩ (Mk.dec_3 hA hae hc2 hS9 hc3))
   ·have hse : se = 0 := by omega
    have hcs := Wi.canon_strs (xs := List.drop an.toNat xs) (by rw [List.length_drop]; omega) (by rw [hS9]; exact hse)
    have hsl := (Wi.getList_len Wi.codec_bytes (fun _ => .inr trivial) (List.drop an.toNat xs) (by rw [List.length_drop]; omega))
    rw [hS9] at hcs hsl
    rw [List.length_drop] at hcs hsl
    dsimp only at hcs hsl
    obtain ⟨hsl, hsl2⟩ := hsl
    have hkvp : ∀ k, ∀ x ∈ Mk.prs S1 k, kvP x := fun k => Mk.prs_kv (fun x hx => by have := hsl2 x hx; have := Wi.by_le x; omega)
    refine wp_skip ?_
    refine hK10 _ _ ?_
    refine k0 ?_; intro K13 hK13
    refine regS hF hS (mQ rfl <| q0 (q_len_sl ty47 hz9 rfl) <| q0 (q_remi rfl rfl omQ) <| q0 (q_nei rfl rfl) <| sq_end) fun a w hF hS => ?_
    refine wp_ifn hF rfl (fun hc4 => ?_) (fun hc4 => ?_)
    ·refine k0 ?_; intro K15 hK15
     refine regl ?_
     refine lQ hF hS (q0 (q_buildP (places := [(0, 1), (1, 1), (2, 1), (3, 1)]) (cells := [.int .i64 0, .int .i64 0, .slice none 0 0, .slice none 0 0]) ty54 kQ rfl (by rfl)) <| sq_end) fun a w hF hS => ?_
     refine eQ hF hS rfl (ef_storeW ty54 0 rfl rfl rfl rfl bQ (oc_cons rfl (oc_cons rfl (oc_cons rfl (oc_cons rfl oc_nil)))) bQ) ?_
     rintro _ _ _ a w ⟨rfl, rfl, rfl⟩ hF hS
     replace hS := nl2_1 hS
     refine lQ hF hS (aQ rfl <| aQ rfl <| sq_end) fun a w hF hS => ?_
     refine wpList_nil (hK15 _ _ ?_)
     refine wp_ret ?_
     replace hS := hS.zone00
     replace hS := nl3_1 hS
     obtain ⟨zu, hzu, hS⟩ := hS.union
     exact fn_ret (rs := [.cell 2 54, .tmp 3, .tmp 4]) rfl hF hS (vs := [_, _, _]) ⟨⟨_, _, _, _, _, _, _, rfl, List.mem_of_getElem? (i := 0) rfl, ty54, .inl ⟨rfl, bQ, rfl⟩⟩, rfl, rfl, trivial⟩ (zs' := [zu]) (hs' := []) (List.singleton_sublist.2 (by simp)) zQ (pdd_of (q := Mk.pf0) ⟨_, _, zu, rfl, sl_nil, sl_nil, rfl, rfl⟩ (Mk.dec_4 hA hae hc2 hS9 hse omQ))
    ·have hev : S1.length % 2 = 0 := by omega
     obtain ⟨NN, hNN⟩ : ∃ k, S1.length = 2 * k := ⟨S1.length / 2, by omega⟩
     obtain ⟨D1, dn, de, hD9⟩ : ∃ x y z, Wi.getDigs (List.drop (an + sn).toNat xs) = (x, y, z) := ⟨_, _, _, rfl⟩
     refine wp_skip ?_
     refine hK13 _ _ ?_
     refine reglS fun K16 hK16 => ?_
     refine lQ hF hS (mQ rfl <| mQ rfl <| mQ rfl <| pQ rfl rfl <| q0 (q_slsl_lo ty39 ty5 hb rfl rfl omQ) <| sq_end) fun a w hF hS => ?_
     refine eQ hF hS rfl (ef_call fn77 rfl (fun w hS => rgds_ct _ _ (by rw [List.length_drop, List.length_take]; omega) w (Sl.mono (hS.le zin0) (Sl.cut hb omQ)))) ?_
     rintro _ _ _ a w ⟨_, _, rfl, rfl, ⟨v11, z12, rfl, hz13, rfl, rfl⟩⟩ hF hS
     (try simp only [List.take_length] at hF hz13); rw [hD9] at hF hz13; (try dsimp only at hF hz13)
     replace hS := nl3_1 hS
     refine lQ hF hS (mQ rfl <| q0 (q_extract rfl rfl) <| q0 (q_extract rfl rfl) <| q0 (q_extract rfl rfl) <| aQ rfl <| aQ rfl <| aQ rfl <| sq_end) fun a w hF hS => ?_
     refine wpList_nil (hK16 _ _ ?_)
     refine k0 ?_; intro K17 hK17
     refine regS hF hS (mQ rfl <| q0 (q_nei rfl rfl) <| sq_end) fun a w hF hS => ?_
     refine wp_ifn hF rfl (fun hc5 => ?_) (fun hc5 => ?_)
     ·refine k0 ?_; intro K19 hK19
      refine regl ?_
      refine lQ hF hS (q0 (q_buildP (places := [(0, 1), (1, 1), (2, 1), (3, 1)]) (cells := [.int .i64 0, .int .i64 0, .slice none 0 0, .slice none 0 0]) ty54 kQ rfl (by rfl)) <| mQ rfl <| sq_end) fun a w hF hS => ?_
      refine eQ hF hS rfl (ef_storeW ty54 0 rfl rfl rfl rfl bQ (oc_cons rfl (oc_cons rfl (oc_cons rfl (oc_cons rfl oc_nil)))) bQ) ?_
      rintro _ _ _ a w ⟨rfl, rfl, rfl⟩ hF hS
      replace hS := nl3_1 hS
      refine lQ hF hS (aQ rfl <| aQ rfl <| sq_end) fun a w hF hS => ?_
      refine wpList_nil (hK19 _ _ ?_)
      refine wp_ret ?_
      replace hS := hS.zone00
      replace hS : St _ [_, _, _, _] [_] _ := hS
      obtain ⟨zu, hzu, hS⟩ := hS.union
      exact fn_ret (rs := [.cell 2 54, .tmp 3, .tmp 4]) rfl hF hS (vs := [_, _, _]) ⟨⟨_, _, _, _, _, _, _, rfl, List.mem_of_getElem? (i := 0) rfl, ty54, .inl ⟨rfl, bQ, rfl⟩⟩, rfl, rfl, trivial⟩ (zs' := [zu]) (hs' := []) (List.singleton_sublist.2 (by simp)) zQ (pdd_of (q := Mk.pf0) ⟨_, _, zu, rfl, sl_nil, sl_nil, rfl, rfl⟩ (Mk.dec_5 hA hae hc2 hS9 hse hev hD9 hc5))
     ·have hde : de = 0 := by omega
      have hcd := Wi.canon_digs (xs := List.drop (an + sn).toNat xs) (by rw [List.length_drop]; omega) (by rw [hD9]; exact hde)
      rw [hD9] at hcd
      rw [List.length_drop] at hcd
      dsimp only at hcd
      refine wp_skip ?_
      refine hK17 _ _ ?_
      refine k0 ?_; intro K20 hK20
      revert hS; revert hF; apply regJ (J := J1 (α0 := Nat) 97 _ _ _ _ _) #[false, false, false, false, false, false, false, false, false, false] 10 mixed rfl rfl
      ·intro w hF hS
       refine tQ 0 rfl hF (hS.keep sQ zQ) (q_move rfl) fun a hF => ?_
       refine tQ 1 rfl hF (hS.keep sQ zQ) (q_idx_sl ty22 ty3 hz5 rfl rfl omQ) fun a hF => ?_
       refine tQ 2 rfl hF (hS.keep sQ zQ) (q_ld_I ty3 hz5 (.inr (by simp)) rfl rfl omQ) fun a hF => ?_
       refine tQ 3 rfl hF (hS.keep sQ zQ) (q_move rfl) fun a hF => ?_
       refine tQ 4 rfl hF (hS.keep sQ zQ) (q_idx_sl ty22 ty3 hz5 rfl rfl omQ) fun a hF => ?_
       refine tQ 5 rfl hF (hS.keep sQ zQ) (q_ld_I ty3 hz5 (.inr (by simp)) rfl rfl omQ) fun a hF => ?_
       refine tQ 6 rfl hF (hS.keep sQ zQ) (q_move rfl) fun a hF => ?_
       refine tQ 7 rfl hF (hS.keep sQ zQ) (q_buildP (places := [(0, 1), (1, 1), (2, 1), (3, 1)]) (cells := [_, _, .slice none 0 0, _]) ty54 kQ rfl (fill_stepL (c := [_]) (l := [_, _, _, _]) (l' := [_, _, _, _]) rfl (cells_one rfl) rfl lB rfl (fill_stepL (c := [_]) (l := [_, _, _, _]) (l' := [_, _, _, _]) rfl (cells_one rfl) rfl lB rfl (fill_stepL (c := [_]) (l := [_, _, _, _]) (l' := [_, _, _, _]) rfl (cells_one (sl_one' hz13)) rfl lB rfl (fill_endL rfl))))) fun a hF => ?_
       refine gQ 8 rfl rfl hF hS rfl (ef_allocA ty54) ?_
       rintro _ _ _ a w ⟨b_14_8, rfl, rfl, rfl⟩ hF hS
       refine ⟨⟨.inr (hS.keep sQ zQ), .inr (hS.keep sQ zQ), .inr (hS.keep sQ zQ), .inr (hS.keep sQ zQ), .inr (hS.keep sQ zQ), .inr (hS.keep sQ zQ), .inr (hS.keep sQ zQ), .inr (hS.keep sQ zQ), trivial⟩, ?_⟩
       refine gQ 9 rfl rfl hF hS rfl (ef_storeW ty54 0 rfl rfl rfl rfl bQ (oc_cons rfl (oc_cons rfl (oc_cons rfl (oc_cons (sl_one' hz13) oc_nil)))) bQ) ?_
       rintro _ _ _ a w ⟨rfl, rfl, rfl⟩ hF hS
       refine ⟨⟨iQ, iQ, iQ, iQ, iQ, iQ, iQ, iQ, trivial⟩, ?_⟩
       exact goW_done kQ (j1_mk b_14_8 (trivial) (hF.sub (L' := [(2, _), (6, _), (8, _), (9, _), (12, _), (14, _)]) ⟨rfl, rfl, rfl, rfl, rfl, rfl, trivial⟩) hS)
      rintro a w ⟨b_14_8, -, hF, hS⟩
      (try dsimp only at hF hS)
      replace hS := hS.nilRow 75 2
      replace hS := nl3_3 hS
      refine hK20 _ _ ?_
      refine k0 ?_; intro K21 hK21
      refine regS hF hS (aQ rfl <| sq_end) fun a w hF hS => ?_
      refine wp_block ?_
      obtain ⟨hs0, hhs0, hS⟩ := hS.oh
      refine wp_loopx (γ := Value × Nat) ((Value.slice none 0 0), 0) (fun (u, k) => [(15, vi (2 * (k : Int)))]) [(2, _), (6, _), (8, _), (9, _), (12, _), (14, _)] (fun (u, k) => ((hs0.set 1 (.blk b_14_8 54 [vi (A1.getD 0 0), vi (A1.getD 1 0), u, v11])).set 0 (.row u 75 2 k ((Mk.prs S1 k).flatMap kvC)))) (fun (u, k) => k ≤ NN) (fun (u, k) => NN - k) (hF.sub ⟨rfl, rfl, rfl, rfl, rfl, rfl, rfl, trivial⟩) (by subst hhs0; dsimp only; rw [Mk.prs_0]; exact hS) (by exact Nat.zero_le _) ?_
      rintro ⟨u, k⟩ a w hfact hF hS
      subst hhs0; (try dsimp only at hfact hF hS)
      have hk0 := hfact
      replace hS := nl3_3 hS
      refine k0 ?_; intro K23 hK23
      refine regS hF hS (mQ rfl <| pQ rfl rfl <| mQ rfl <| q0 (q_len_sl ty47 hz9 rfl) <| q0 (q_lti rfl rfl) <| sq_end) fun a w hF hS => ?_
      refine wp_ifd hF rfl (fun hc6 => ?_) (fun hc6 => ?_)
      ·refine wp_skip ?_
       refine hK23 _ _ ?_
       refine k0 ?_; intro K25 hK25
       refine wp_block ?_
       revert hS; revert hF; apply regJ (J := J2 (α0 := Value) (α1 := Value) 97 _ _ _ _ _) #[false, false, false, false, false, false, false, false, false, false, false, false, false, false, false, false] 16 mixed rfl rfl
       ·intro w hF hS
        refine tQ 0 rfl hF (hS.keep sQ zQ) (q_fieldAddr ty54 rfl rfl (s' := 0) kQ) fun a hF => ?_
        refine tQ 1 rfl hF (hS.keep sQ (zQ.k.n)) (q_ld_blk1 ty24 0 rfl rfl rfl rfl) fun a hF => ?_
        refine tQ 2 rfl hF (hS.keep sQ zQ) (q_move rfl) fun a hF => ?_
        refine tQ 3 rfl hF (hS.keep sQ zQ) (q_move rfl) fun a hF => ?_
        refine tQ 4 rfl hF (hS.keep sQ zQ) (q_idx_sl ty47 ty9 hz9 rfl rfl omQ) fun a hF => ?_
        refine tQ 5 rfl hF (hS.keep sQ zQ) (q_ld_S ty9 hz9 (.inr (by simp)) rfl rfl omQ) fun a hF => ?_
        refine tQ 6 rfl hF (hS.keep sQ zQ) (q_move rfl) fun a hF => ?_
        refine tQ 7 rfl hF (hS.keep sQ zQ) (q_move rfl) fun a hF => ?_
        refine tQ 8 rfl hF (hS.keep sQ zQ) (q_addi rfl rfl omQ) fun a hF => ?_
        refine tQ 9 rfl hF (hS.keep sQ zQ) (q_idx_sl ty47 ty9 hz9 rfl rfl omQ) fun a hF => ?_
        refine tQ 10 rfl hF (hS.keep sQ zQ) (q_ld_S ty9 hz9 (.inr (by simp)) rfl rfl omQ) fun a hF => ?_
        refine tQ 11 rfl hF (hS.keep sQ zQ) (q_buildS1 ty75 2 kQ rfl rfl (oc_cons rfl (oc_cons rfl oc_nil)) rfl rfl) fun a hF => ?_
        refine gQ 12 rfl rfl hF hS rfl (ef_bsliceW ty24 ty75 rfl bQ deQ oQ deQ deQ) ?_
        rintro v_18_12 _ _ a w ⟨rfl, rfl⟩ hF hS
        refine ⟨⟨iQ, iQ, .inr (hS.keep sQ zQ), .inr (hS.keep sQ zQ), .inr (hS.keep sQ zQ), .inr (hS.keep sQ zQ), iQ, .inr (hS.keep sQ zQ), .inr (hS.keep sQ zQ), .inr (hS.keep sQ zQ), .inr (hS.keep sQ (zQ.k.n.n)), .inr (hS.keep sQ zQ), trivial⟩, ?_⟩
        refine gQ 13 rfl rfl hF hS rfl (ef_append ty24 ty75 1 rfl rfl rfl (src_row ty24 (k := 0) rfl oQ) bQ rfl deQ) ?_
        rintro v_18_13 _ _ a w ⟨rfl, rfl⟩ hF hS
        refine ⟨⟨iQ, iQ, .inr (hS.keep sQ zQ), .inr (hS.keep sQ zQ), .inr (hS.keep sQ zQ), .inr (hS.keep sQ zQ), iQ, .inr (hS.keep sQ zQ), .inr (hS.keep sQ zQ), .inr (hS.keep sQ zQ), iQ, iQ, trivial⟩, ?_⟩
        refine tQ 14 rfl hF (hS.keep sQ zQ) (q_fieldAddr ty54 rfl rfl (s' := 0) kQ) fun a hF => ?_
        refine gQ 15 rfl rfl hF hS rfl (ef_store1 ty24 2 rfl rfl rfl (row_one (hS.ow 1 rfl)) (by simp)) ?_
        rintro _ _ _ a w ⟨rfl, rfl, rfl⟩ hF hS
        replace hS : St _ [_, _, _] [_, _, .blk _ _ ([_, _, _, _].set 2 _), _] _ := hS
        simp only [sC] at hS
        replace hS : St _ [_, _, _] [_, _, _, _] _ := hS
        refine ⟨⟨iQ, iQ, iQ, iQ, iQ, iQ, iQ, iQ, iQ, iQ, iQ, iQ, iQ, trivial⟩, ?_⟩
        exact goW_done kQ (j2_mk v_18_12 v_18_13 (trivial) (hF.sub (L' := [(2, _), (6, _), (8, _), (9, _), (12, _), (14, _), (15, _)]) ⟨rfl, rfl, rfl, rfl, rfl, rfl, rfl, trivial⟩) hS)
       rintro a w ⟨v_18_12, v_18_13, -, hF, hS⟩
       (try dsimp only at hF hS)
       refine hK25 _ _ ?_
       refine reg hF hS (mQ rfl <| pQ rfl rfl <| aQ rfl <| sq_end) fun a w hF hS => ?_
       replace hS := hS.keep sQ (sN1)
       refine ⟨(v_18_13, k + 1), ?_, ?_, hF.sub ⟨(by show some (vi _) = some (vi _); congr 2 <;> omega), rfl, rfl, rfl, rfl, rfl, rfl, trivial⟩, ?_⟩
       ·(try dsimp only); omega
       ·omega
       ·rw [Mk.prs_step'] at hS
        exact hS
      ·obtain rfl : NN = k := by omega
       refine wp_exit ?_
       refine hK21 _ _ ?_
       refine reglS fun K26 hK26 => ?_
       refine lQ hF hS (q0 (q_ld_blkW ty54 1 rfl rfl bQ rfl) <| mQ rfl <| mQ rfl <| pQ rfl rfl <| mQ rfl <| pQ rfl rfl <| sq_end) fun a w hF hS => ?_
       refine eQ hF hS rfl (ef_storeW ty54 2 rfl rfl rfl rfl bQ (oc_cons rfl (oc_cons rfl (oc_cons (row_one (hS.ow 0 rfl)) (oc_cons (sl_one' hz13) oc_nil)))) bQ) ?_
       rintro _ _ _ a w ⟨rfl, rfl, rfl⟩ hF hS
       replace hS := nl3_3 hS
       refine lQ hF hS (aQ rfl <| aQ rfl <| sq_end) fun a w hF hS => ?_
       refine wpList_nil (hK26 _ _ ?_)
       refine wp_ret ?_
       obtain ⟨zk, hzk, hS⟩ := St.freezeF (xs := (Mk.prs S1 NN)) (hS.rowEq (m' := List.length ((Mk.prs S1 NN))) (cs' := List.flatMap kvC ((Mk.prs S1 NN))) ((Mk.prs_len _ _).symm) (rfl)) rfl (by rw [Mk.prs_len]; omega) (hkvp _)
       replace hS : St _ [_, _, _, _] [_, _] _ := hS
       replace hS := hS.zone00
       replace hS : St _ [_, _, _, _, _] [_, _] _ := hS
       obtain ⟨zu, hzu, hS⟩ := hS.union
       exact fn_ret (rs := [.cell 2 54, .tmp 3, .tmp 4]) rfl hF hS (vs := [_, _, _]) ⟨⟨_, _, _, _, _, _, _, rfl, List.mem_of_getElem? (i := 1) rfl, ty54, .inl ⟨rfl, bQ, rfl⟩⟩, rfl, rfl, trivial⟩ (zs' := [zu]) (hs' := []) (List.singleton_sublist.2 (by simp)) zQ (pdd_of (q := ⟨A1.getD 0 0, A1.getD 1 0, Mk.prs S1 NN, D1⟩) ⟨_, _, zu, rfl, Sl.mono (hzu _ (by simp)) hzk, Sl.mono (hzu _ (by simp)) hz13, rfl, rfl⟩ (by rw [Mk.dec_6 hA hae hc2 hS9 hse hev hD9 hde, show S1.length / 2 = NN by omega]))
theorem dec_ct (v : Value) (xs : List UInt8) (hx : xs.length < 1048576000) (w : World) (hb : Sl encB (ph w) v xs) : Ct Tryd.prog 43 [v] w (PfD (Mk.decPf xs)) := by
 refine fn_enterM Tryd.func43 rfl Tryd.ntmps43 lB fun a hF hS => ?_
 have hbl := hb.1
 obtain ⟨A1, an, ae, hA⟩ : ∃ x y z, Wi.getList Wi.getInt xs = (x, y, z) := ⟨_, _, _, rfl⟩
 refine reglS fun K1 hK1 => ?_
 refine eQ hF hS rfl (ef_allocA ty50) ?_
 rintro _ _ _ a w ⟨b1, rfl, rfl, rfl⟩ hF hS
 refine lQ hF hS (aQ rfl <| aQ rfl <| sq_end) fun a w hF hS => ?_
 refine wpList_nil (hK1 _ _ ?_)
 refine reglS fun K2 hK2 => ?_
 refine lQ hF hS (mQ rfl <| sq_end) fun a w hF hS => ?_
 refine eQ hF hS rfl (ef_call fn70 rfl (fun w hS => wgis_ct _ _ omQ w (Sl.mono (hS.le zin0) hb))) ?_
 rintro _ _ _ a w ⟨_, _, rfl, rfl, ⟨v3, z4, rfl, hz5, rfl, rfl⟩⟩ hF hS
 (try simp only [List.take_length] at hF hz5); rw [hA] at hF hz5; (try dsimp only at hF hz5)
 replace hS := nl1_1 hS
 refine lQ hF hS (mQ rfl <| q0 (q_extract rfl rfl) <| q0 (q_extract rfl rfl) <| q0 (q_extract rfl rfl) <| aQ rfl <| aQ rfl <| aQ rfl <| sq_end) fun a w hF hS => ?_
 refine wpList_nil (hK2 _ _ ?_)
 refine k0 ?_; intro K3 hK3
 refine regS hF hS (mQ rfl <| q0 (q_nei rfl rfl) <| sq_end) fun a w hF hS => ?_
 refine wp_ifn hF rfl (fun hc1 => ?_) (fun hc1 => ?_)
 ·refine k0 ?_; intro K5 hK5
  refine regl ?_
  refine lQ hF hS (q0 (q_buildP (places := [(0, 1), (1, 1), (2, 1), (3, 1)]) (cells := [.int .i64 0, .int .i64 0, .slice none 0 0, .slice none 0 0]) ty50 kQ rfl (by rfl)) <| mQ rfl <| sq_end) fun a w hF hS => ?_
  refine eQ hF hS rfl (ef_storeW ty50 0 rfl rfl rfl rfl bQ (oc_cons rfl (oc_cons rfl (oc_cons rfl (oc_cons rfl oc_nil)))) bQ) ?_
  rintro _ _ _ a w ⟨rfl, rfl, rfl⟩ hF hS
  replace hS := nl1_1 hS
  refine lQ hF hS (aQ rfl <| aQ rfl <| sq_end) fun a w hF hS => ?_
  refine wpList_nil (hK5 _ _ ?_)
  refine wp_ret ?_
  replace hS := hS.zone00
  replace hS := nl2_1 hS
  obtain ⟨zu, hzu, hS⟩ := hS.union
  exact fn_retM (rs := [.cell 2 50, .tmp 3, .tmp 4]) rfl hF hS (vs := [_, _, _]) ⟨⟨_, _, _, _, _, _, _, rfl, List.mem_of_getElem? (i := 0) rfl, ty50, .inl ⟨rfl, bQ, rfl⟩⟩, rfl, rfl, trivial⟩ (zs' := [zu]) (hs' := []) (List.singleton_sublist.2 (by simp)) zQ (pdd_of (q := Mk.pf0) ⟨_, _, zu, rfl, sl_nil, sl_nil, rfl, rfl⟩ (Mk.dec_1 hA hc1))
 ·have hae : ae = 0 := by omega
  have hca := Wi.canon_ints (xs := xs) omQ (by rw [hA]; exact hae)
  rw [hA] at hca
  dsimp only at hca
  refine wp_skip ?_
  refine hK3 _ _ ?_
  refine k0 ?_; intro K6 hK6
  refine regS hF hS (mQ rfl <| q0 (q_len_sl ty22 hz5 rfl) <| q0 (q_nei rfl rfl) <| sq_end) fun a w hF hS => ?_
  refine wp_ifn hF rfl (fun hc2 => ?_) (fun hc2 => ?_)
  ·refine k0 ?_; intro K8 hK8
   refine regl ?_
   refine lQ hF hS (q0 (q_buildP (places := [(0, 1), (1, 1), (2, 1), (3, 1)]) (cells := [.int .i64 0, .int .i64 0, .slice none 0 0, .slice none 0 0]) ty50 kQ rfl (by rfl)) <| sq_end) fun a w hF hS => ?_
   refine eQ hF hS rfl (ef_storeW ty50 0 rfl rfl rfl rfl bQ (oc_cons rfl (oc_cons rfl (oc_cons rfl (oc_cons rfl oc_nil)))) bQ) ?_
   rintro _ _ _ a w ⟨rfl, rfl, rfl⟩ hF hS
   replace hS := nl1_1 hS
   refine lQ hF hS (aQ rfl <| aQ rfl <| sq_end) fun a w hF hS => ?_
   refine wpList_nil (hK8 _ _ ?_)
   refine wp_ret ?_
   replace hS := hS.zone00
   replace hS := nl2_1 hS
   obtain ⟨zu, hzu, hS⟩ := hS.union
   exact fn_retM (rs := [.cell 2 50, .tmp 3, .tmp 4]) rfl hF hS (vs := [_, _, _]) ⟨⟨_, _, _, _, _, _, _, rfl, List.mem_of_getElem? (i := 0) rfl, ty50, .inl ⟨rfl, bQ, rfl⟩⟩, rfl, rfl, trivial⟩ (zs' := [zu]) (hs' := []) (List.singleton_sublist.2 (by simp)) zQ (pdd_of (q := Mk.pf0) ⟨_, _, zu, rfl, sl_nil, sl_nil, rfl, rfl⟩ (Mk.dec_2 hA hae omQ))
  ·have hc2 : A1.length = 2 := by omega
   obtain ⟨S1, sn, se, hS9⟩ : ∃ x y z, Wi.getList Wi.getBytes (List.drop an.toNat xs) = (x, y, z) := ⟨_, _, _, rfl⟩
   refine wp_skip ?_
   refine hK6 _ _ ?_
   refine reglS fun K9 hK9 => ?_
   refine lQ hF hS (mQ rfl <| mQ rfl <| q0 (q_slsl_lo ty39 ty5 hb rfl rfl omQ) <| sq_end) fun a w hF hS => ?_
   refine eQ hF hS rfl (ef_call fn71 rfl (fun w hS => wgss_ct _ _ (by rw [List.length_drop, List.length_take]; omega) w (Sl.mono (hS.le zin0) (Sl.cut hb omQ)))) ?_
   rintro _ _ _ a w ⟨_, _, rfl, rfl, ⟨v7, z8, rfl, hz9, rfl, rfl⟩⟩ hF hS
   (try simp only [List.take_length] at hF hz9); rw [hS9] at hF hz9; (try dsimp only at hF hz9)
   replace hS := nl2_1 hS
   refine lQ hF hS (mQ rfl <| q0 (q_extract rfl rfl) <| q0 (q_extract rfl rfl) <| q0 (q_extract rfl rfl) <| aQ rfl <| aQ rfl <| aQ rfl <| sq_end) fun a w hF hS => ?_
   refine wpList_nil (hK9 _ _ ?_)
   refine k0 ?_; intro K10 hK10
   refine regS hF hS (mQ rfl <| q0 (q_nei rfl rfl) <| sq_end) fun a w hF hS => ?_
   refine wp_ifn hF rfl (fun hc3 => ?_) (fun hc3 => ?_)
   ·refine k0 ?_; intro K12 hK12
    refine regl ?_
    refine lQ hF hS (q0 (q_buildP (places := [(0, 1), (1, 1), (2, 1), (3, 1)]) (cells := [.int .i64 0, .int .i64 0, .slice none 0 0, .slice none 0 0]) ty50 kQ rfl (by rfl)) <| mQ rfl <| sq_end) fun a w hF hS => ?_
    refine eQ hF hS rfl (ef_storeW ty50 0 rfl rfl rfl rfl bQ (oc_cons rfl (oc_cons rfl (oc_cons rfl (oc_cons rfl oc_nil)))) bQ) ?_
    rintro _ _ _ a w ⟨rfl, rfl, rfl⟩ hF hS
    replace hS := nl2_1 hS
    refine lQ hF hS (aQ rfl <| aQ rfl <| sq_end) fun a w hF hS => ?_
    refine wpList_nil (hK12 _ _ ?_)
    refine wp_ret ?_
    replace hS := hS.zone00
    replace hS := nl3_1 hS
    obtain ⟨zu, hzu, hS⟩ := hS.union
    exact fn_retM (rs := [.cell 2 50, .tmp 3, .tmp 4]) rfl hF hS (vs := [_, _, _]) ⟨⟨_, _, _, _, _, _, _, rfl, List.mem_of_getElem? (i := 0) rfl, ty50, .inl ⟨rfl, bQ, rfl⟩⟩, rfl, rfl, trivial⟩ (zs' := [zu]) (hs' := []) (List.singleton_sublist.2 (by simp)) zQ (pdd_of (q := Mk.pf0) ⟨_, _, zu, rfl, sl_nil, sl_nil, rfl, rfl⟩ (Mk.dec_3 hA hae hc2 hS9 hc3))
   ·have hse : se = 0 := by omega
    have hcs := Wi.canon_strs (xs := List.drop an.toNat xs) (by rw [List.length_drop]; omega) (by rw [hS9]; exact hse)
    have hsl := (Wi.getList_len Wi.codec_bytes (fun _ => .inr trivial) (List.drop an.toNat xs) (by rw [List.length_drop]; omega))
    rw [hS9] at hcs hsl
    rw [List.length_drop] at hcs hsl
    dsimp only at hcs hsl
    obtain ⟨hsl, hsl2⟩ := hsl
    have hkvp : ∀ k, ∀ x ∈ Mk.prs S1 k, kvP x := fun k => Mk.prs_kv (fun x hx => by have := hsl2 x hx; have := Wi.by_le x; omega)
    refine wp_skip ?_
    refine hK10 _ _ ?_
    refine k0 ?_; intro K13 hK13
    refine regS hF hS (mQ rfl <| q0 (q_len_sl ty47 hz9 rfl) <| q0 (q_remi rfl rfl omQ) <| q0 (q_nei rfl rfl) <| sq_end) fun a w hF hS => ?_
    refine wp_ifn hF rfl (fun hc4 => ?_) (fun hc4 => ?_)
    ·refine k0 ?_; intro K15 hK15
     refine regl ?_
     refine lQ hF hS (q0 (q_buildP (places := [(0, 1), (1, 1), (2, 1), (3, 1)]) (cells := [.int .i64 0, .int .i64 0, .slice none 0 0, .slice none 0 0]) ty50 kQ rfl (by rfl)) <| sq_end) fun a w hF hS => ?_
     refine eQ hF hS rfl (ef_storeW ty50 0 rfl rfl rfl rfl bQ (oc_cons rfl (oc_cons rfl (oc_cons rfl (oc_cons rfl oc_nil)))) bQ) ?_
     rintro _ _ _ a w ⟨rfl, rfl, rfl⟩ hF hS
     replace hS := nl2_1 hS
     refine lQ hF hS (aQ rfl <| aQ rfl <| sq_end) fun a w hF hS => ?_
     refine wpList_nil (hK15 _ _ ?_)
     refine wp_ret ?_
     replace hS := hS.zone00
     replace hS := nl3_1 hS
     obtain ⟨zu, hzu, hS⟩ := hS.union
     exact fn_retM (rs := [.cell 2 50, .tmp 3, .tmp 4]) rfl hF hS (vs := [_, _, _]) ⟨⟨_, _, _, _, _, _, _, rfl, List.mem_of_getElem? (i := 0) rfl, ty50, .inl ⟨rfl, bQ, rfl⟩⟩, rfl, rfl, trivial⟩ (zs' := [zu]) (hs' := []) (List.singleton_sublist.2 (by simp)) zQ (pdd_of (q := Mk.pf0) ⟨_, _, zu, rfl, sl_nil, sl_nil, rfl, rfl⟩ (Mk.dec_4 hA hae hc2 hS9 hse omQ))
    ·have hev : S1.length % 2 = 0 := by omega
     obtain ⟨NN, hNN⟩ : ∃ k, S1.length = 2 * k := ⟨S1.length / 2, by omega⟩
     obtain ⟨D1, dn, de, hD9⟩ : ∃ x y z, Wi.getDigs (List.drop (an + sn).toNat xs) = (x, y, z) := ⟨_, _, _, rfl⟩
     refine wp_skip ?_
     refine hK13 _ _ ?_
     refine reglS fun K16 hK16 => ?_
     refine lQ hF hS (mQ rfl <| mQ rfl <| mQ rfl <| pQ rfl rfl <| q0 (q_slsl_lo ty39 ty5 hb rfl rfl omQ) <| sq_end) fun a w hF hS => ?_
     refine eQ hF hS rfl (ef_call fn72 rfl (fun w hS => wgds_ct _ _ (by rw [List.length_drop, List.length_take]; omega) w (Sl.mono (hS.le zin0) (Sl.cut hb omQ)))) ?_
     rintro _ _ _ a w ⟨_, _, rfl, rfl, ⟨v11, z12, rfl, hz13, rfl, rfl⟩⟩ hF hS
     (try simp only [List.take_length] at hF hz13); rw [hD9] at hF hz13; (try dsimp only at hF hz13)
     replace hS := nl3_1 hS
     refine lQ hF hS (mQ rfl <| q0 (q_extract rfl rfl) <| q0 (q_extract rfl rfl) <| q0 (q_extract rfl rfl) <| aQ rfl <| aQ rfl <| aQ rfl <| sq_end) fun a w hF hS => ?_
     refine wpList_nil (hK16 _ _ ?_)
     refine k0 ?_; intro K17 hK17
     refine regS hF hS (mQ rfl <| q0 (q_nei rfl rfl) <| sq_end) fun a w hF hS => ?_
     refine wp_ifn hF rfl (fun hc5 => ?_) (fun hc5 => ?_)
     ·refine k0 ?_; intro K19 hK19
      refine regl ?_
      refine lQ hF hS (q0 (q_buildP (places := [(0, 1), (1, 1), (2, 1), (3, 1)]) (cells := [.int .i64 0, .int .i64 0, .slice none 0 0, .slice none 0 0]) ty50 kQ rfl (by rfl)) <| mQ rfl <| sq_end) fun a w hF hS => ?_
      refine eQ hF hS rfl (ef_storeW ty50 0 rfl rfl rfl rfl bQ (oc_cons rfl (oc_cons rfl (oc_cons rfl (oc_cons rfl oc_nil)))) bQ) ?_
      rintro _ _ _ a w ⟨rfl, rfl, rfl⟩ hF hS
      replace hS := nl3_1 hS
      refine lQ hF hS (aQ rfl <| aQ rfl <| sq_end) fun a w hF hS => ?_
      refine wpList_nil (hK19 _ _ ?_)
      refine wp_ret ?_
      replace hS := hS.zone00
      replace hS : St _ [_, _, _, _] [_] _ := hS
      obtain ⟨zu, hzu, hS⟩ := hS.union
      exact fn_retM (rs := [.cell 2 50, .tmp 3, .tmp 4]) rfl hF hS (vs := [_, _, _]) ⟨⟨_, _, _, _, _, _, _, rfl, List.mem_of_getElem? (i := 0) rfl, ty50, .inl ⟨rfl, bQ, rfl⟩⟩, rfl, rfl, trivial⟩ (zs' := [zu]) (hs' := []) (List.singleton_sublist.2 (by simp)) zQ (pdd_of (q := Mk.pf0) ⟨_, _, zu, rfl, sl_nil, sl_nil, rfl, rfl⟩ (Mk.dec_5 hA hae hc2 hS9 hse hev hD9 hc5))
     ·have hde : de = 0 := by omega
      have hcd := Wi.canon_digs (xs := List.drop (an + sn).toNat xs) (by rw [List.length_drop]; omega) (by rw [hD9]; exact hde)
      rw [hD9] at hcd
      rw [List.length_drop] at hcd
      dsimp only at hcd
      refine wp_skip ?_
      refine hK17 _ _ ?_
      refine k0 ?_; intro K20 hK20
      revert hS; revert hF; apply regJ (J := J1 (α0 := Nat) 88 _ _ _ _ _) #[false, false, false, false, false, false, false, false, false, false] 10 mixed rfl rfl
      ·intro w hF hS
       refine tQ 0 rfl hF (hS.keep sQ zQ) (q_move rfl) fun a hF => ?_
       refine tQ 1 rfl hF (hS.keep sQ zQ) (q_idx_sl ty22 ty3 hz5 rfl rfl omQ) fun a hF => ?_
       refine tQ 2 rfl hF (hS.keep sQ zQ) (q_ld_I ty3 hz5 (.inr (by simp)) rfl rfl omQ) fun a hF => ?_
       refine tQ 3 rfl hF (hS.keep sQ zQ) (q_move rfl) fun a hF => ?_
       refine tQ 4 rfl hF (hS.keep sQ zQ) (q_idx_sl ty22 ty3 hz5 rfl rfl omQ) fun a hF => ?_
       refine tQ 5 rfl hF (hS.keep sQ zQ) (q_ld_I ty3 hz5 (.inr (by simp)) rfl rfl omQ) fun a hF => ?_
       refine tQ 6 rfl hF (hS.keep sQ zQ) (q_move rfl) fun a hF => ?_
       refine tQ 7 rfl hF (hS.keep sQ zQ) (q_buildP (places := [(0, 1), (1, 1), (2, 1), (3, 1)]) (cells := [_, _, .slice none 0 0, _]) ty50 kQ rfl (fill_stepL (c := [_]) (l := [_, _, _, _]) (l' := [_, _, _, _]) rfl (cells_one rfl) rfl lB rfl (fill_stepL (c := [_]) (l := [_, _, _, _]) (l' := [_, _, _, _]) rfl (cells_one rfl) rfl lB rfl (fill_stepL (c := [_]) (l := [_, _, _, _]) (l' := [_, _, _, _]) rfl (cells_one (sl_one' hz13)) rfl lB rfl (fill_endL rfl))))) fun a hF => ?_
       refine gQ 8 rfl rfl hF hS rfl (ef_allocA ty50) ?_
       rintro _ _ _ a w ⟨b_14_8, rfl, rfl, rfl⟩ hF hS
       refine ⟨⟨.inr (hS.keep sQ zQ), .inr (hS.keep sQ zQ), .inr (hS.keep sQ zQ), .inr (hS.keep sQ zQ), .inr (hS.keep sQ zQ), .inr (hS.keep sQ zQ), .inr (hS.keep sQ zQ), .inr (hS.keep sQ zQ), trivial⟩, ?_⟩
       refine gQ 9 rfl rfl hF hS rfl (ef_storeW ty50 0 rfl rfl rfl rfl bQ (oc_cons rfl (oc_cons rfl (oc_cons rfl (oc_cons (sl_one' hz13) oc_nil)))) bQ) ?_
       rintro _ _ _ a w ⟨rfl, rfl, rfl⟩ hF hS
       refine ⟨⟨iQ, iQ, iQ, iQ, iQ, iQ, iQ, iQ, trivial⟩, ?_⟩
       exact goW_done kQ (j1_mk b_14_8 (trivial) (hF.sub (L' := [(2, _), (6, _), (8, _), (9, _), (11, _), (12, _)]) ⟨rfl, rfl, rfl, rfl, rfl, rfl, trivial⟩) hS)
      rintro a w ⟨b_14_8, -, hF, hS⟩
      (try dsimp only at hF hS)
      replace hS := hS.nilRow 41 2
      replace hS := nl3_3 hS
      refine hK20 _ _ ?_
      refine k0 ?_; intro K21 hK21
      refine reglS fun K22 hK22 => ?_
      refine lQ hF hS (mQ rfl <| sq_end) fun a w hF hS => ?_
      refine eQ hF hS rfl (ef_call fn73 rfl (fun w hS => chunk_ct _ (sl_one' hz9) _ deQ w )) ?_
      rintro _ _ _ a w ⟨_, _, rfl, rfl, ⟨e1, e2, rfl, rfl, rfl⟩⟩ hF hS
      replace hS : St _ [_, _, _] [_, _, _, _, _] _ := hS
      refine wpList_nil (hK22 _ _ ?_)
      refine wp_block ?_
      have hSS := hz9
      replace hS := hS.perm (.cons _ (.cons _ (.swap _ _ _)))
      replace hS : St _ [_, _, _] [_, _, _, _, _] _ := hS
      obtain ⟨hs0, hhs0, hS⟩ := hS.oh
      refine wp_rangeG (fun r : Res × Res => (hs0.set 2 r.1).set 3 r.2) ((fun (k : Nat) (r : Res × Res) => ∃ u, r = (.blk b_14_8 50 [vi (A1.getD 0 0), vi (A1.getD 1 0), u, v11], .row u 41 2 k ((Mk.prs S1 k).flatMap kvC)))) (NN) ((fun k => chV v7 k)) ((.blk b_14_8 50 [vi (A1.getD 0 0), vi (A1.getD 1 0), (Value.slice none 0 0), v11], .row (Value.slice none 0 0) 41 2 0 [])) hF (by subst hhs0; exact hS) rfl rfl rfl (fn99) (⟨_, by rw [Mk.prs_0]; rfl⟩) (fun Y zs1 hzz hY w hS => ?_) (fun l9 m9 zB zD k9 r9 a w hk9 hi9 hF hS => ?_) (fun I D zD a w r9 hno hI hD hi9 hF hS => ?_)
      ·subst hhs0
       exact CxH.full2 (chunk1_ct e1 e2 _ S1 NN hNN Y _ _ zs1 _ (fun (k : Nat) (r : Res × Res) => ∃ u, r = (.blk b_14_8 50 [vi (A1.getD 0 0), vi (A1.getD 1 0), u, v11], .row u 41 2 k ((Mk.prs S1 k).flatMap kvC))) _ _ (.inr (hzz _ (by simp))) hSS ⟨_, by rw [Mk.prs_0]; rfl⟩ hY) w hS
      ·subst hhs0
       (try dsimp only at hF); (try dsimp only [sC] at hS)
       replace hS : St _ [_, _, _, _, _] [_, _, _, _, _] _ := hS
       obtain ⟨u, rfl⟩ := hi9
       (try dsimp only at hS)
       have hch := Sl.full (Sl.cut hSS (lo := (2 * (k9 : Int)).toNat) (hi := (2 * (k9 : Int) + 2).toNat) omQ)
       have hcl : (List.drop (2 * (k9 : Int)).toNat (List.take (2 * (k9 : Int) + 2).toNat S1)).length = 2 := by rw [List.length_drop, List.length_take]; omega
       replace hS : St _ [_, _, _, _, _] [_, _, _, _, _] _ := hS
       refine wpIn_block ?_
       revert hS; revert hF; apply regJR (J := J2 (α0 := Value) (α1 := Value) 88 _ _ _ _ _) #[false, false, false, false, false, false, false, false, false, false, false, false, false] 13 mixed rfl rfl; case hd => rfl
       ·intro w hF hS
        refine tQ 0 rfl hF (hS.keep sQ zQ) (q_fieldAddr ty50 rfl rfl (s' := 0) kQ) fun a hF => ?_
        refine tQ 1 rfl hF (hS.keep sQ (zQ.k.n.n)) (q_ld_blk1 ty33 0 rfl rfl rfl rfl) fun a hF => ?_
        refine tQ 2 rfl hF (hS.keep sQ zQ) (q_move rfl) fun a hF => ?_
        refine tQ 3 rfl hF (hS.keep sQ zQ) (q_idx_sl ty47 ty9 hch rfl rfl omQ) fun a hF => ?_
        refine tQ 4 rfl hF (hS.keep sQ zQ) (q_ld_S ty9 hch (.inr (by simp)) rfl rfl omQ) fun a hF => ?_
        refine tQ 5 rfl hF (hS.keep sQ zQ) (q_move rfl) fun a hF => ?_
        refine tQ 6 rfl hF (hS.keep sQ zQ) (q_idx_sl ty47 ty9 hch rfl rfl omQ) fun a hF => ?_
        refine tQ 7 rfl hF (hS.keep sQ zQ) (q_ld_S ty9 hch (.inr (by simp)) rfl rfl omQ) fun a hF => ?_
        refine tQ 8 rfl hF (hS.keep sQ zQ) (q_buildS1 ty41 2 kQ rfl rfl (oc_cons rfl (oc_cons rfl oc_nil)) rfl rfl) fun a hF => ?_
        refine gQ 9 rfl rfl hF hS rfl (ef_bsliceW ty33 ty41 rfl bQ deQ oQ deQ deQ) ?_
        rintro v_17_9 _ _ a w ⟨rfl, rfl⟩ hF hS
        refine ⟨⟨iQ, iQ, .inr (hS.keep sQ zQ), .inr (hS.keep sQ zQ), iQ, .inr (hS.keep sQ zQ), .inr (hS.keep sQ zQ), .inr (hS.keep sQ (zQ.k.n.n.n)), .inr (hS.keep sQ zQ), trivial⟩, ?_⟩
        refine gQ 10 rfl rfl hF hS rfl (ef_append ty33 ty41 4 rfl rfl rfl (src_row ty33 (k := 0) rfl oQ) bQ rfl deQ) ?_
        rintro v_17_10 _ _ a w ⟨rfl, rfl⟩ hF hS
        refine ⟨⟨iQ, iQ, .inr (hS.keep sQ zQ), .inr (hS.keep sQ zQ), iQ, .inr (hS.keep sQ zQ), .inr (hS.keep sQ zQ), iQ, iQ, trivial⟩, ?_⟩
        refine tQ 11 rfl hF (hS.keep sQ zQ) (q_fieldAddr ty50 rfl rfl (s' := 0) kQ) fun a hF => ?_
        refine gQ 12 rfl rfl hF hS rfl (ef_store1 ty33 3 rfl rfl rfl (row_one (hS.ow 4 rfl)) (by simp)) ?_
        rintro _ _ _ a w ⟨rfl, rfl, rfl⟩ hF hS
        replace hS : St _ [_, _, _, _, _] [_, _, _, .blk _ _ ([_, _, _, _].set 2 _), _, _] _ := hS
        simp only [sC] at hS
        replace hS : St _ [_, _, _, _, _] [_, _, _, _, _, _] _ := hS
        refine ⟨⟨iQ, iQ, iQ, iQ, iQ, iQ, iQ, iQ, iQ, iQ, trivial⟩, ?_⟩
        exact goW_done kQ (j2_mk v_17_9 v_17_10 (trivial) (hF.sub (L' := []) trivial) hS)
       rintro a w ⟨v_17_9, v_17_10, -, hF, hS⟩
       (try dsimp only at hF hS)
       replace hS := hS.keep sQ (List.sublist_cons_self _ _)
       rw [show Int.toNat 0 = 0 from rfl, show Int.toNat 1 = 1 from rfl, Mk.prs_step hNN hk9] at hS
       exact And.intro rfl ⟨(_, _), ⟨_, rfl⟩, hS⟩
      subst hhs0
      (try dsimp only at hF); (try dsimp only [sC] at hS)
      replace hS : St _ [_, _, _, _] [_, _, _, _, _] _ := hS
      obtain ⟨u, rfl⟩ := hi9
      (try dsimp only at hS)
      replace hS : St _ [_, _, _, _] [_, _, _, _, _] _ := hS
      refine hK21 _ _ ?_
      refine reglS fun K23 hK23 => ?_
      refine lQ hF hS (q0 (q_ld_blkW ty50 2 rfl rfl bQ rfl) <| mQ rfl <| mQ rfl <| pQ rfl rfl <| mQ rfl <| pQ rfl rfl <| sq_end) fun a w hF hS => ?_
      refine eQ hF hS rfl (ef_storeW ty50 4 rfl rfl rfl rfl bQ (oc_cons rfl (oc_cons rfl (oc_cons (row_one (hS.ow 3 rfl)) (oc_cons (sl_one' hz13) oc_nil)))) bQ) ?_
      rintro _ _ _ a w ⟨rfl, rfl, rfl⟩ hF hS
      replace hS : St _ [_, _, _, _] [_, _, _, _, _] _ := hS
      refine lQ hF hS (aQ rfl <| aQ rfl <| sq_end) fun a w hF hS => ?_
      refine wpList_nil (hK23 _ _ ?_)
      refine wp_ret ?_
      refine fn_retG [z12, z8, z4] hI hD (by simp) (fun z hz => List.mem_cons_of_mem _ hz) hno (rs := [.cell 2 50, .tmp 3, .tmp 4]) rfl hF hS (vs := [_, _, _]) ⟨⟨_, _, _, _, _, _, _, rfl, List.mem_of_getElem? (i := 4) rfl, ty50, .inl ⟨rfl, bQ, rfl⟩⟩, rfl, rfl, trivial⟩ (fun W hS => ?_)
      replace hS := hS.perm (.cons _ (.cons _ (.swap _ _ _)))
      replace hS := hS.perm (.cons _ (.swap _ _ _))
      replace hS := hS.perm (.swap _ _ _)
      obtain ⟨zk, hzk, hS⟩ := St.freezeF (xs := (Mk.prs S1 NN)) (hS.rowEq (m' := List.length ((Mk.prs S1 NN))) (cs' := List.flatMap kvC ((Mk.prs S1 NN))) ((Mk.prs_len _ _).symm) (rfl)) rfl (by rw [Mk.prs_len]; omega) (hkvp _)
      replace hS : St _ [_, _, _, _] [_, _, _, _] _ := hS
      replace hS := hS.zone00
      replace hS : St _ [_, _, _, _, _] [_, _, _, _] _ := hS
      obtain ⟨zu, hzu, hS⟩ := hS.union
      exact ⟨[zu], [], hS.keep (List.singleton_sublist.2 (by simp)) zQ, pdd_of (q := ⟨A1.getD 0 0, A1.getD 1 0, Mk.prs S1 NN, D1⟩) ⟨_, _, zu, rfl, Sl.mono (hzu _ (by simp)) hzk, Sl.mono (hzu _ (by simp)) hz13, rfl, rfl⟩ (by rw [Mk.dec_6 hA hae hc2 hS9 hse hev hD9 hde, show S1.length / 2 = NN by omega])⟩
end
section
theorem ty91 : Tf Tryd.prog 91 (.slice 39) 1 24 (Value.slice none 0 0) := ⟨Tryd.underlying91, by kernel_rfl⟩
theorem fn40 : FnOk Tryd.prog 40 := fQ Tryd.func40
theorem fn42 : FnOk Tryd.prog 42 := fQ Tryd.func42
theorem fn43 : FnOk Tryd.prog 43 := fQ Tryd.func43
theorem fn44 : FnOk Tryd.prog 44 := fQ Tryd.func44
theorem fn47 : FnOk Tryd.prog 47 := fQ Tryd.func47
attribute [local irreducible] Sha.sum Sha.mac Sha.ofD Wi.int Wi.ints Wi.bytes Sha.inp Mk.half Lib.compareBytes Mk.frm Mk.rootD Mk.provE Mk.rangE Mk.rootE Mk.chkE Mk.chkR Mk.shown Mk.leavesL Mk.keyL Mk.keyB Mk.hasI Mk.inside Mk.bent Mk.coll Mk.vE Mk.rowD Gu.arnd Mk.encPf Mk.decPf Wi.strs Wi.dgs
def mcF (v2 : Value) (EE raw9 : List UInt8) (b ca : Int) (z : PH) : Nat → Value → Prop
 | 0, v => Sl encB z v (EE.set (Gu.arnd ca (EE.length : Int)).toNat (EE.getD (Gu.arnd ca (EE.length : Int)).toNat 0 ^^^ ofb b))
 | 1, v => Sl encB z v EE
 | 2, v => v = vi ca
 | 3, v => Sl encB z v EE
 | 4, v => v = vi (EE.length : Int)
 | 5, v => v = vi (Gu.arnd ca (EE.length : Int))
 | 6, v => Sl encB z v (List.drop 0 (List.take (Gu.arnd ca (EE.length : Int)).toNat EE))
 | 7, v => v = v2
 | 8, v => Sl encB z v (raw9.take 60)
 | 9, v => v = vi b
 | 10, v => Sl Go.Fw.encI z v [b]
 | 12, v => Sl Go.Fw.encS z v [[97]]
 | 13, v => Sl encB z v (Wi.strs [[97]])
 | 14, v => Sl encB z v (Wi.ints [b] ++ Wi.strs [[97]])
 | 15, v => Sl Go.Fw.encI z v [0, 1]
 | 17, v => Sl Go.Fw.encS z v [[97]]
 | 18, v => Sl encB z v (Wi.strs [[97]])
 | 19, v => Sl encB z v (Wi.ints [0, 1] ++ Wi.strs [[97]])
 | 20, v => Sl (encSl encB) z v [(EE.set (Gu.arnd ca (EE.length : Int)).toNat (EE.getD (Gu.arnd ca (EE.length : Int)).toNat 0 ^^^ ofb b)), (List.drop 0 (List.take (Gu.arnd ca (EE.length : Int)).toNat EE)), (raw9.take 60), (Wi.ints [b] ++ Wi.strs [[97]]), (Wi.ints [0, 1] ++ Wi.strs [[97]])]
 | 21, v => Sl (encSl encB) z v [(EE.set (Gu.arnd ca (EE.length : Int)).toNat (EE.getD (Gu.arnd ca (EE.length : Int)).toNat 0 ^^^ ofb b)), (List.drop 0 (List.take (Gu.arnd ca (EE.length : Int)).toNat EE)), (raw9.take 60), (Wi.ints [b] ++ Wi.strs [[97]]), (Wi.ints [0, 1] ++ Wi.strs [[97]])]
 | _, _ => True
theorem mcF_mono {v2 : Value} {EE raw9 : List UInt8} {b ca : Int} (z z' : PH) (k : Nat) (v : Value) (h : z.le z') (hf : mcF v2 EE raw9 b ca z k v) : mcF v2 EE raw9 b ca z' k v := by
 unfold mcF at hf ⊢
 split at hf <;> first | exact Sl.mono h hf | exact hf
def mcH (i : Int) (hs0 : List Res) (b : Nat → Bool) (X : Nat → Value) : List Res :=
 (bif b 11 && !b 14 then [.row (X 11) 5 1 (Wi.ints [i]).length ((Wi.ints [i]).map vb)] else []) ++ ((bif b 16 && !b 19 then [.row (X 16) 5 1 (Wi.ints [0, 1]).length ((Wi.ints [0, 1]).map vb)] else []) ++ hs0)
theorem mcH_00 {i : Int} {hs0 : List Res} {b : Nat → Bool} {X : Nat → Value} (h1 : (b 11 && !b 14) = false) (h2 : (b 16 && !b 19) = false) : mcH i hs0 b X = hs0 := by unfold mcH; rw [h1, h2]; rfl
theorem mcH_10 {i : Int} {hs0 : List Res} {b : Nat → Bool} {X : Nat → Value} (h1 : (b 11 && !b 14) = true) (h2 : (b 16 && !b 19) = false) : mcH i hs0 b X = .row (X 11) 5 1 (Wi.ints [i]).length ((Wi.ints [i]).map vb) :: hs0 := by unfold mcH; rw [h1, h2]; rfl
theorem mcH_01 {i : Int} {hs0 : List Res} {b : Nat → Bool} {X : Nat → Value} (h1 : (b 11 && !b 14) = false) (h2 : (b 16 && !b 19) = true) : mcH i hs0 b X = .row (X 16) 5 1 (Wi.ints [0, 1]).length ((Wi.ints [0, 1]).map vb) :: hs0 := by unfold mcH; rw [h1, h2]; rfl
theorem mlaw7_ct (v1 v2 : Value) (l : List Int) (k how b ca : Int) (raw9 : List UInt8) (hk9 : -9223372036854775808 ≤ k ∧ k ≤ 9223372036854775807) (hh9 : -9223372036854775808 ≤ how ∧ how ≤ 9223372036854775807) (hb9 : -9223372036854775808 ≤ b ∧ b ≤ 9223372036854775807) (ha9 : -9223372036854775808 ≤ ca ∧ ca ≤ 9223372036854775807) (w : World) (hb1 : Sl Go.Fw.encI (ph w) v1 l) (hb2 : Sl encB (ph w) v2 raw9) {fz0 : Nat × Nat} {bt0 : TypeId} (hg0 : w.heap[0]? = some (.cells (Sha.kc.map vw).toArray bt0 fz0)) {fz1 : Nat × Nat} {bt1 : TypeId} (hg1 : w.heap[2]? = some (.cells (Sha.kc.map vw).toArray bt1 fz1)) : Ct Tryd.prog 9 [v1, vi k, vi how, vi b, vi ca, v2] w (fun r _ _ => r = .bool true) := by
 refine fn_enter Tryd.func9 rfl Tryd.ntmps9 lB fun a hF hS => ?_
 obtain ⟨X, hX⟩ : ∃ x, x = Mk.leavesL l := ⟨_, rfl⟩
 have hlbX := Mk.leaves_bd l
 have hvX := Mk.leaves_vE l
 rw [← hX] at hlbX hvX
 obtain ⟨hlnX, hlxX⟩ := hlbX
 obtain ⟨rtX, hrtX⟩ : ∃ x, x = (Mk.rootE X).1 := ⟨_, rfl⟩
 have hrlX : rtX.length = 16 := by rw [hrtX, Mk.rootE_n hvX]; exact Mk.rootD_16 _ _
 have hroX : Mk.rootE X = (rtX, 0) := by rw [hrtX, Mk.rootE_n hvX]
 have hrnX : (Mk.rootE X).1.length = 16 := by rw [← hrtX]; exact hrlX
 obtain ⟨ka, hka⟩ : ∃ x, x = Mk.keyL X k := ⟨_, rfl⟩
 have hklka : ka.length ≤ 8 := by rw [hka]; exact Nat.le_trans (Mk.keyL_len (fun x hx => (hlxX x hx).1) _) omQ
 have hbX3 : ∀ x ∈ X, x.1.length ≤ 3 ∧ x.2.length ≤ 3 := fun x hx => by have := hlxX x hx; omega
 obtain ⟨pa, hpa⟩ : ∃ x, x = (Mk.provE X ka).1 := ⟨_, rfl⟩
 obtain ⟨Ba, hBa⟩ : ∃ x, x = Mk.bent pa how b := ⟨_, rfl⟩
 have hsa : Mk.smP pa 11 3 := by rw [hpa]; exact Mk.smP_mono (Mk.prov_sm hbX3 ka) hlnX (Nat.le_refl _)
 have hsBa := Mk.bent_sm hsa how b
 have hga : Mk.Rg pa.fst ∧ Mk.Rg pa.sz := by rw [hpa]; exact Mk.prov_rg omQ
 have hgb := Mk.bent_rg (how := how) hga.1 hga.2 hb9
 rw [← hBa] at hsBa hgb
 obtain ⟨QQ, hQQ⟩ : ∃ x, x = [pa, Ba, Mk.pf0, ⟨b, how, [], []⟩] := ⟨_, rfl⟩
 have hQn : QQ.length = 4 := by rw [hQQ]; rfl
 have hQe : ∀ j, Mk.smE (QQ.getD j Mk.pf0) := by
  rw [hQQ]
  exact Mk.four_sm ⟨hga.1, hga.2, (Mk.smP_mono hsa deQ deQ)⟩ ⟨hgb.1, hgb.2, (Mk.smP_mono hsBa deQ deQ)⟩ ⟨Mk.rg0, Mk.rg0, Mk.pf0_sm _ _⟩ ⟨hb9, hh9, Nat.zero_le _, Nat.zero_le _, fun x h => (by cases h), fun x h => (by cases h)⟩
 have hrl9 := hb2.1
 refine regS hF hS (aQ rfl <| sq_end) fun a w hF hS => ?_
 refine reglS fun K2 hK2 => ?_
 refine lQ hF hS (mQ rfl <| sq_end) fun a w hF hS => ?_
 refine eQ hF hS rfl (ef_call fn10 rfl (fun w hS => leaves_ct _ _ w (Sl.mono (hS.le zin0) hb1))) ?_
 rintro v1 _ _ a w ⟨_, _, rfl, rfl, ⟨z2, hz3, rfl, rfl⟩⟩ hF hS
 (try rw [← hX] at hF); rw [← hX] at hz3
 replace hS : St _ [_] [] _ := hS
 refine lQ hF hS (aQ rfl <| sq_end) fun a w hF hS => ?_
 refine wpList_nil (hK2 _ _ ?_)
 refine reglS fun K3 hK3 => ?_
 refine lQ hF hS (mQ rfl <| mQ rfl <| mQ rfl <| q0 (q_call fn20 rfl (fun w hS => keyL_ct _ _ _ omQ (fun x hx => by have := hlxX x hx; omega) omQ w (Sl.mono (hS.le (.inr (by simp))) hz3)) hI) <| sq_end) fun a w hF hS => ?_
 refine eQ hF hS rfl (ef_call fn23 rfl (fun w hS => rprove_ct _ _ (Mk.keyL X k) w (Sl.mono (hS.le (.inr (by simp))) hz3) (hS.ext _ _ hg0))) ?_
 rintro _ _ _ a w ⟨_, _, rfl, rfl, ⟨l5, s6, z7, rfl, hl8, hs9, rfl, rfl⟩⟩ hF hS
 rw [← hka] at hF hl8 hs9
 (try rw [← hpa] at hF); rw [← hpa] at hl8 hs9
 replace hS : St _ [_, _] [] _ := hS
 refine lQ hF hS (mQ rfl <| q0 (q_extract rfl rfl) <| q0 (q_extract rfl rfl) <| sq_end) fun a w hF hS => ?_
 refine eQ hF hS rfl (ef_allocA ty54) ?_
 rintro _ _ _ a w ⟨b10, rfl, rfl, rfl⟩ hF hS
 refine eQ hF hS rfl (ef_storeW ty54 0 rfl rfl rfl rfl bQ (oc_cons rfl (oc_cons rfl (oc_cons (sl_one' hl8) (oc_cons (sl_one' hs9) oc_nil)))) bQ) ?_
 rintro _ _ _ a w ⟨rfl, rfl, rfl⟩ hF hS
 replace hS := nl2_1 hS
 refine lQ hF hS (aQ rfl <| sq_end) fun a w hF hS => ?_
 refine wpList_nil (hK3 _ _ ?_)
 refine k0 ?_; intro K4 hK4
 revert hS; revert hF; apply regJ (J := J4 (α0 := Value) (α1 := Value) (α2 := PH) (α3 := Value) 188 _ _ _ _ _) #[false, false, false, false, false, false, false, false, false, false, false] 11 mixed rfl rfl
 ·intro w hF hS
  refine tQ 0 rfl hF (hS.keep sQ sQ) (q_ld_blkW ty54 0 rfl rfl bQ rfl) fun a hF => ?_
  refine tQ 1 rfl hF (hS.keep sQ sQ) (q_ld_blkW ty54 0 rfl rfl bQ rfl) fun a hF => ?_
  refine tQ 2 rfl hF (hS.keep sQ zQ) (q_move rfl) fun a hF => ?_
  refine tQ 3 rfl hF (hS.keep sQ zQ) (q_move rfl) fun a hF => ?_
  refine tQ 5 rfl hF (hS.keep sQ zQ) (q_buildP (places := [(0, 1), (1, 1), (2, 1), (3, 1)]) (cells := [.int .i64 0, .int .i64 0, .slice none 0 0, .slice none 0 0]) ty54 kQ rfl (by rfl)) fun a hF => ?_
  refine tQ 6 rfl hF (hS.keep sQ zQ) (q_move rfl) fun a hF => ?_
  refine tQ 7 rfl hF (hS.keep sQ zQ) (q_move rfl) fun a hF => ?_
  refine tQ 8 rfl hF (hS.keep sQ zQ) (q_buildP (places := [(0, 1), (1, 1), (2, 1), (3, 1)]) (cells := [_, _, .slice none 0 0, .slice none 0 0]) ty54 kQ rfl (by rfl)) fun a hF => ?_
  refine gQ 4 rfl rfl hF hS rfl (ef_call fn28 rfl (fun w hS => bent_ct pa _ _ _ _ omQ omQ (Mk.smP_mono hsa deQ deQ) w (Sl.mono (hS.le (.inr (by simp))) hl8) (Sl.mono (hS.le (.inr (by simp))) hs9))) ?_
  rintro _ _ _ a w ⟨_, _, rfl, rfl, ⟨l_3_4, s_3_4, z_3_4, rfl, hl_3_4, hs_3_4, rfl, rfl⟩⟩ hF hS
  rw [← hBa] at hF hl_3_4 hs_3_4
  replace hS := nl3_1 hS
  refine ⟨⟨.inr (hS.keep (sN1) zQ), .inr (hS.keep (sN1) zQ), .inr (hS.keep (sN1) zQ), .inr (hS.keep (sN1) zQ), iQ, iQ, iQ, .inr (hS.keep (sN1) sQ), trivial⟩, ?_⟩
  refine gQ 9 rfl rfl hF hS rfl (ef_bsliceC ty63 ty54 [[_, _, _, _], [_, _, _, _], [_, _, _, _], [_, _, _, _]] rfl rfl (by simp) (oc2_cons (oc_cons rfl (oc_cons rfl (oc_cons (sl_one' hl8) (oc_cons (sl_one' hs9) oc_nil)))) (oc2_cons (oc_cons rfl (oc_cons rfl (oc_cons (sl_one' hl_3_4) (oc_cons (sl_one' hs_3_4) oc_nil)))) (oc2_cons (oc_cons rfl (oc_cons rfl (oc_cons rfl (oc_cons rfl oc_nil)))) (oc2_cons (oc_cons rfl (oc_cons rfl (oc_cons rfl (oc_cons rfl oc_nil)))) oc2_nil)))) deQ rfl rfl) ?_
  rintro v_3_9 _ _ a w ⟨rfl, rfl⟩ hF hS
  refine ⟨⟨iQ, iQ, iQ, iQ, iQ, iQ, iQ, iQ, trivial⟩, ?_⟩
  refine tQ 10 rfl hF (hS.keep sQ zQ) (q_assign rfl) fun a hF => ?_
  exact goW_done kQ (j4_mk l_3_4 s_3_4 z_3_4 v_3_9 ((And.intro hl_3_4 (And.intro hs_3_4 trivial))) (hF.sub (L' := [(3, _), (4, _), (5, _), (16, _)]) ⟨rfl, rfl, rfl, rfl, trivial⟩) hS)
 rintro a w ⟨l_3_4, s_3_4, z_3_4, v_3_9, ⟨hl_3_4, hs_3_4, -⟩, hF, hS⟩
 (try dsimp only at hF hS)
 replace hS := hS.zone00
 replace hS : St _ [_, _, _, _] [_, _] _ := hS
 obtain ⟨zu, hzu, hS⟩ := hS.union
 obtain ⟨zY, hzY, hS⟩ := St.freezeE encP (z' := zu) (xs := [pa, Ba, Mk.pf0, ⟨b, how, [], []⟩]) hS (by simp) rfl deQ ⟨⟨_, _, rfl, Sl.mono (hzu _ (by simp)) hl8, Sl.mono (hzu _ (by simp)) hs9⟩, ⟨_, _, rfl, Sl.mono (hzu _ (by simp)) hl_3_4, Sl.mono (hzu _ (by simp)) hs_3_4⟩, ⟨_, _, rfl, sl_nil, sl_nil⟩, ⟨_, _, rfl, sl_nil, sl_nil⟩, trivial⟩
 rw [← hQQ] at hzY
 replace hS : St _ [_, _, _, _, _, _] [_] _ := hS
 refine hK4 _ _ ?_
 refine k0 ?_; intro K5 hK5
 refine regS hF hS (aQ rfl <| sq_end) fun a w hF hS => ?_
 refine wp_block ?_
 obtain ⟨hs0, hhs0, hS⟩ := hS.oh
 refine wp_loopx (γ := Int) (0) (fun (i : Int) => [(17, vi i)]) [(3, _), (4, _), (5, _), (16, _)] (fun (i : Int) => hs0) (fun (i : Int) => 0 ≤ i ∧ i ≤ 4) (fun (i : Int) => (4 - i).toNat) (hF.sub ⟨rfl, rfl, rfl, rfl, rfl, trivial⟩) (by subst hhs0; exact hS) (by exact ⟨Int.le_refl _, by omega⟩) ?_
 rintro i a w hfact hF hS
 subst hhs0; (try dsimp only at hfact hF hS)
 obtain ⟨hi0, hi1⟩ := hfact
 replace hS : St _ [_, _, _, _, _, _] [_] _ := hS
 refine k0 ?_; intro K7 hK7
 refine regS hF hS (mQ rfl <| mQ rfl <| q0 (q_len_sl ty63 hzY rfl) <| q0 (q_lti rfl rfl) <| sq_end) fun a w hF hS => ?_
 refine wp_ifd hF rfl (fun hc1 => ?_) (fun hc1 => ?_)
 ·obtain ⟨lvi, svi, hqc, hql, hqs⟩ := pf_at hzY (k := i.toNat) omQ
  have hqe := hQe i.toNat
  have hqb1 := hqe.2.2.1
  have hok := Mk.smE_ok hqe
  obtain ⟨EE, hEE⟩ : ∃ x, x = Mk.encPf (QQ.getD i.toNat Mk.pf0) := ⟨_, rfl⟩
  have hEl := Mk.enc_sm hqe
  have hEp := Mk.enc_pos (QQ.getD i.toNat Mk.pf0)
  rw [← hEE] at hEl hEp
  have hEl2 := Mk.enc_sm hqe
  have hrt9 : Mk.decPf (EE ++ raw9.take 30) = ((QQ.getD i.toNat Mk.pf0), (EE.length : Int), 0) := by rw [hEE]; exact Mk.rt_pf hok _
  have har := Gu.arnd_range (n := ca) (m := (EE.length : Int)) omQ
  have hI1 := Wi.ints_len2 [b]
  have hI2 := Wi.ints_len2 [0, 1]
  have hI3 := Wi.strs_len9 (n := 1) [[97]] deQ
  rw [show [b].length = 1 from rfl] at hI1
  rw [show [(0 : Int), 1].length = 2 from rfl] at hI2
  rw [show [([97] : List UInt8)].length = 1 from rfl] at hI3
  obtain ⟨TT, hTT⟩ : ∃ x, x = [(EE.set (Gu.arnd ca (EE.length : Int)).toNat (EE.getD (Gu.arnd ca (EE.length : Int)).toNat 0 ^^^ ofb b)), (List.drop 0 (List.take (Gu.arnd ca (EE.length : Int)).toNat EE)), (raw9.take 60), (Wi.ints [b] ++ Wi.strs [[97]]), (Wi.ints [0, 1] ++ Wi.strs [[97]])] := ⟨_, rfl⟩
  have hTn : TT.length = 5 := by rw [hTT]; rfl
  have hTb : ∀ j, (TT.getD j []).length ≤ 4000 := by
   rw [hTT]
   exact Mk.five_len (by rw [List.length_set]; omega) (by rw [List.length_drop, List.length_take]; omega) (by rw [List.length_take]; omega) (by rw [List.length_append]; omega) (by rw [List.length_append]; omega)
  refine wp_skip ?_
  refine hK7 _ _ ?_
  refine k0 ?_; intro K9 hK9
  refine wp_block ?_
  refine reglS fun K10 hK10 => ?_
  refine lQ hF hS (mQ rfl <| mQ rfl <| q0 (q_idx_sl ty63 ty54 hzY rfl rfl omQ) <| q0 (q_ld_pf ty54 hzY (.inr (by simp)) hqc rfl rfl omQ) <| sq_end) fun a w hF hS => ?_
  refine eQ hF hS rfl (ef_call fn30 rfl (fun w hS => proof_ct (QQ.getD i.toNat Mk.pf0) _ _ omQ w (Sl.mono (hS.le (.inr (by simp))) hql) (Sl.mono (hS.le (.inr (by simp))) hqs))) ?_
  rintro _ _ _ a w ⟨_, _, rfl, rfl, ⟨l12, z13, rfl, hl14, rfl, rfl⟩⟩ hF hS
  replace hS : St _ [_, _, _, _, _, _, _] [_] _ := hS
  refine eQ hF hS rfl (ef_call fn40 rfl (fun w hS => enc_ct (QQ.getD i.toNat Mk.pf0) _ _ (by first | with_reducible assumption | omega) w (Sl.mono (hS.le (.inr (by simp))) hl14) (Sl.mono (hS.le (.inr (by simp))) hqs))) ?_
  rintro v15 _ _ a w ⟨_, _, rfl, rfl, rfl, rfl⟩ hF hS
  replace hS : St _ [_, _, _, _, _, _, _] [_, _] _ := hS
  refine lQ hF hS (aQ rfl <| sq_end) fun a w hF hS => ?_
  refine wpList_nil ?_
  rw [← hEE] at hS
  obtain ⟨z17, hz18, hS⟩ := St.freezeB hS (by first | rfl | (simp; done) | (simp; omega)) bQ
  replace hS : St _ [_, _, _, _, _, _, _, _] [_] _ := hS
  refine hK10 _ _ ?_
  refine k0 ?_; intro K11 hK11
  refine reglS fun K12 hK12 => ?_
  refine lQ hF hS (mQ rfl <| mQ rfl <| mQ rfl <| q0 (q_idx_sl ty63 ty54 hzY rfl rfl omQ) <| q0 (q_ld_pf ty54 hzY (.inr (by simp)) hqc rfl rfl omQ) <| sq_end) fun a w hF hS => ?_
  refine eQ hF hS rfl (ef_call fn42 rfl (fun w hS => renc_ct (QQ.getD i.toNat Mk.pf0) _ _ (by first | with_reducible assumption | omega) w (Sl.mono (hS.le (.inr (by simp))) hql) (Sl.mono (hS.le (.inr (by simp))) hqs))) ?_
  rintro v19 _ _ a w ⟨_, _, rfl, rfl, rfl, rfl⟩ hF hS
  replace hS : St _ [_, _, _, _, _, _, _, _] [_, _] _ := hS
  refine lQ hF hS (q0 (q_call fn41 rfl (fun w hS => same_ct _ _ _ _ w (Sl.mono (hS.le (.inr (by simp))) hz18) (own_slV (hS.ow 0 rfl) (by first | assumption | (simp; done)) (by first | rfl | (simp; done) | (simp; omega) | omega) (by first | omega | (simp; omega)))) hI) <| q0 (q_nf (q_not rfl) (hEE)) <| mQ rfl <| sq_go 71 rfl rfl rfl (q_move rfl) <| sq_go 71 rfl rfl rfl (q_len_sl ty39 hz18 rfl) <| sq_go 71 rfl rfl rfl (q_df (q_eqi rfl rfl) omQ) <| q0 (q_pick_f rfl rfl) <| sq_end) fun a w hF hS => ?_
  refine wpList_nil (hK12 _ _ ?_)
  refine wp_if hF rfl (fun h => absurd h (by simp)) (fun _ => ?_)
  refine wp_skip ?_
  refine hK11 _ _ ?_
  refine reglS fun K13 hK13 => ?_
  refine eQ hF hS rfl (ef_bslice0 ty39 ty5) ?_
  rintro v21 _ _ a w ⟨rfl, rfl⟩ hF hS
  replace hS : St _ [_, _, _, _, _, _, _, _] [_, _, _] _ := hS
  refine lQ hF hS (mQ rfl <| sq_end) fun a w hF hS => ?_
  refine eQ hF hS rfl (ef_append ty39 ty5 0 rfl rfl rfl (src_slV ty39 hz18 (.inr (by simp))) bQ rfl deQ) ?_
  rintro v23 _ _ a w ⟨rfl, rfl⟩ hF hS
  replace hS : St _ [_, _, _, _, _, _, _, _] [_, _, _] _ := hS
  refine lQ hF hS (mQ rfl <| sq_end) fun a w hF hS => ?_
  refine eQ hF hS rfl (ef_call fn44 rfl (fun w hS => rfew_ct _ _ _ 30 rfl w (Sl.mono (hS.le zin0) hb2))) ?_
  rintro v24 _ _ a w ⟨_, _, rfl, rfl, rfl, rfl⟩ hF hS
  replace hS : St _ [_, _, _, _, _, _, _, _] [_, _, _, _] _ := hS
  refine eQ hF hS rfl (ef_append ty39 ty5 1 rfl rfl rfl (src_row ty39 (k := 0) rfl oQ) bQ rfl deQ) ?_
  rintro v26 _ _ a w ⟨rfl, rfl⟩ hF hS
  replace hS : St _ [_, _, _, _, _, _, _, _] [_, _, _, _] _ := hS
  rw [List.nil_append, ← List.map_append] at hS
  replace hS : St _ [_, _, _, _, _, _, _, _] [_, _, _, _] _ := hS
  refine eQ hF hS rfl (ef_call fn43 rfl (fun w hS => dec_ct _ _ (by rw [List.length_append, List.length_take]; omega) w (own_slV (hS.ow 1 rfl) (by first | assumption | (simp; done)) (by first | rfl | (simp; done) | (simp; omega) | omega) (by first | omega | (simp; omega))))) ?_
  rintro _ _ _ a w ⟨_, _, rfl, rfl, ⟨l28, s29, z30, rfl, hl31, hs32, rfl, rfl⟩⟩ hF hS
  rw [hrt9] at hF hl31 hs32; (try dsimp only at hF hl31 hs32)
  replace hS : St _ [_, _, _, _, _, _, _, _, _] [_, _, _, _] _ := hS
  refine lQ hF hS (mQ rfl <| q0 (q_extract rfl rfl) <| q0 (q_extract rfl rfl) <| q0 (q_extract rfl rfl) <| sq_end) fun a w hF hS => ?_
  refine eQ hF hS rfl (ef_allocA ty50) ?_
  rintro _ _ _ a w ⟨b33, rfl, rfl, rfl⟩ hF hS
  refine eQ hF hS rfl (ef_storeW ty50 0 rfl rfl rfl rfl bQ (oc_cons rfl (oc_cons rfl (oc_cons (sl_one' hl31) (oc_cons (sl_one' hs32) oc_nil)))) bQ) ?_
  rintro _ _ _ a w ⟨rfl, rfl, rfl⟩ hF hS
  replace hS : St _ [_, _, _, _, _, _, _, _, _] [_, _, _, _, _] _ := hS
  refine lQ hF hS (aQ rfl <| aQ rfl <| sq_end) fun a w hF hS => ?_
  refine wpList_nil (hK13 _ _ ?_)
  refine k0 ?_; intro K14 hK14
  refine k0 ?_; intro K15 hK15
  revert hS; revert hF; apply regJ (J := J2 (α0 := Value) (α1 := PH) 188 _ _ _ _ _) #[false, false, false, false, false, false, false, false, false, false, false, false, false, false, false, false, false, false] 18 mixed rfl rfl
  ·intro w hF hS
   refine tQ 0 rfl hF (hS.keep sQ zQ) (q_move rfl) fun a hF => ?_
   refine tQ 1 rfl hF (hS.keep sQ zQ) (q_nf (q_nei rfl rfl) (rfl)) fun a hF => ?_
   refine tQ 2 rfl hF (hS.keep sQ zQ) (q_move rfl) fun a hF => ?_
   refine goW_takeg 3 _ rfl (wanted_go 89 rfl rfl) kQ rfl hF (hS.keep sQ zQ) (q_move rfl) fun a hF => ?_
   refine goW_takeg 4 _ rfl (wanted_go 89 rfl rfl) kQ rfl hF (hS.keep sQ zQ) (q_move rfl) fun a hF => ?_
   refine goW_takeg 5 _ rfl (wanted_go 89 rfl rfl) kQ rfl hF (hS.keep sQ zQ) (q_len_sl ty39 hz18 rfl) fun a hF => ?_
   refine goW_takeg 6 _ rfl (wanted_go 89 rfl rfl) kQ rfl hF (hS.keep sQ zQ) (q_nf (q_nei rfl rfl) (rfl)) fun a hF => ?_
   refine tQ 7 rfl hF (hS.keep sQ zQ) (q_pick_f rfl rfl) fun a hF => ?_
   refine tQ 8 rfl hF (hS.keep sQ zQ) (q_move rfl) fun a hF => ?_
   refine goW_takeg 9 _ rfl (wanted_go 95 rfl rfl) kQ rfl hF (hS.keep sQ (zQ.k)) (q_ld_blkW ty50 0 rfl rfl bQ rfl) fun a hF => ?_
   refine goW_takeg 11 _ rfl (wanted_go 95 rfl rfl) kQ rfl hF (hS.keep sQ zQ) (q_move rfl) fun a hF => ?_
   refine goW_takeg 12 _ rfl (wanted_go 95 rfl rfl) kQ rfl hF (hS.keep sQ zQ) (q_move rfl) fun a hF => ?_
   refine goW_takeg 13 _ rfl (wanted_go 95 rfl rfl) kQ rfl hF (hS.keep sQ zQ) (q_idx_sl ty63 ty54 hzY rfl rfl omQ) fun a hF => ?_
   refine goW_takeg 14 _ rfl (wanted_go 95 rfl rfl) kQ rfl hF (hS.keep sQ zQ) (q_ld_pf ty54 hzY (.inr (by simp)) hqc rfl rfl omQ) fun a hF => ?_
   refine goW_fork [10] kQ rfl ⟨?_, trivial⟩
   refine stepW_efg _ rfl (wanted_go 95 rfl rfl) rfl hF hS rfl (ef_call fn27 rfl (fun w hS => model_ct (QQ.getD i.toNat Mk.pf0) _ _ omQ w (Sl.mono (hS.le (.inr (by simp))) hl31) (Sl.mono (hS.le (.inr (by simp))) hs32))) ?_
   rintro _ _ _ a w ⟨_, _, rfl, rfl, ⟨l_11_10, z_11_10, rfl, hl_11_10, rfl, rfl⟩⟩ hF hS
   refine ⟨⟨.inr (hS.keep (sN1) zQ), .inr (hS.keep (sN1) zQ), .inr (hS.keep (sN1) zQ), .inr (hS.keep (sN1) zQ), iQ, iQ, iQ, .inr (hS.keep (sN1) zQ), .inr (hS.keep (sN1) zQ), .inr (hS.keep (sN1) zQ), .inr (hS.keep (sN1) zQ), iQ, .inr (hS.keep (sN1) zQ), .inr (hS.keep (sN1) zQ), trivial⟩, ?_⟩
   refine goW_fork [15] kQ rfl ⟨?_, trivial⟩
   refine stepW_efg _ rfl (wanted_go 95 rfl rfl) rfl hF hS rfl (ef_qt (q_call fn26 rfl (fun w hS => samep_ct (QQ.getD i.toNat Mk.pf0) (QQ.getD i.toNat Mk.pf0) _ _ _ _ w (Sl.mono (hS.le (.inr (by simp))) hl_11_10) (Sl.mono (hS.le (.inr (by simp))) hs32) (Sl.mono (hS.le (.inr (by simp))) hql) (Sl.mono (hS.le (.inr (by simp))) hqs)) hI)) ?_
   rintro _ _ _ a w ⟨rfl, rfl, rfl⟩ hF hS
   refine ⟨⟨iQ, iQ, .inr (hS.keep (sN1) zQ), .inr (hS.keep (sN1) zQ), iQ, iQ, iQ, .inr (hS.keep (sN1) zQ), .inr (hS.keep (sN1) zQ), .inr (hS.keep (sN1) zQ), .inr (hS.keep (sN1) zQ), iQ, .inr (hS.keep (sN1) zQ), .inr (hS.keep (sN1) zQ), trivial⟩, ?_⟩
   refine goW_takeg 16 _ rfl (wanted_go 95 rfl rfl) kQ rfl hF (hS.keep sQ zQ) (q_bf (q_not rfl) (by rw [Mk.same_refl]; rfl)) fun a hF => ?_
   refine tQ 17 rfl hF (hS.keep sQ zQ) (q_pick_f rfl rfl) fun a hF => ?_
   exact goW_done kQ (j2_mk l_11_10 z_11_10 ((And.intro hl_11_10 trivial)) (hF.sub (L' := [(3, _), (4, _), (5, _), (16, _), (17, _), (18, _), (104, _)]) ⟨rfl, rfl, rfl, rfl, rfl, rfl, rfl, trivial⟩) hS)
  rintro a w ⟨l_11_10, z_11_10, ⟨hl_11_10, -⟩, hF, hS⟩
  (try dsimp only at hF hS)
  refine hK15 _ _ ?_
  refine wp_if hF rfl (fun h => absurd h (by simp)) (fun _ => ?_)
  refine wp_skip ?_
  refine hK14 _ _ ?_
  refine reglS fun K16 hK16 => ?_
  refine eQ hF hS rfl (ef_bslice0 ty39 ty5) ?_
  rintro v34 _ _ a w ⟨rfl, rfl⟩ hF hS
  replace hS : St _ [_, _, _, _, _, _, _, _, _, _] [_, _, _, _, _, _] _ := hS
  refine lQ hF hS (mQ rfl <| sq_end) fun a w hF hS => ?_
  refine eQ hF hS rfl (ef_append ty39 ty5 0 rfl rfl rfl (src_slV ty39 hz18 (.inr (by simp))) bQ rfl deQ) ?_
  rintro v36 _ _ a w ⟨rfl, rfl⟩ hF hS
  replace hS : St _ [_, _, _, _, _, _, _, _, _, _] [_, _, _, _, _, _] _ := hS
  refine lQ hF hS (aQ rfl <| sq_end) fun a w hF hS => ?_
  refine wpList_nil ?_
  rw [List.nil_append] at hS
  refine hK16 _ _ ?_
  refine reglS fun K17 hK17 => ?_
  refine lQ hF hS (mQ rfl <| mQ rfl <| mQ rfl <| q0 (q_len_sl ty39 hz18 rfl) <| q0 (q_call fn17 rfl (fun w hS => arnd_ct _ _ omQ omQ w ) hI) <| q0 (q_idx_row ty39 ty5 0 rfl rfl rfl omQ) <| q0 (q_ld_rowM ty5 0 (0 : UInt8) rfl rfl bQ rfl) <| mQ rfl <| q0 (q_cv_ib ty3 ty5 rfl) <| q0 (q_xorb rfl rfl) <| q0 (q_idx_row ty39 ty5 0 rfl rfl rfl omQ) <| sq_end) fun a w hF hS => ?_
  refine eQ hF hS rfl (ef_st_row ty5 0 rfl rfl rfl omQ rfl) ?_
  rintro _ _ _ a w ⟨rfl, rfl, rfl⟩ hF hS
  replace hS : St _ [_, _, _, _, _, _, _, _, _, _] [_, _, _, _, _, _] _ := hS
  refine wpList_nil ?_
  obtain ⟨zB, hzB, hS⟩ := St.freezeB (xs := (EE.set (Gu.arnd ca (EE.length : Int)).toNat (EE.getD (Gu.arnd ca (EE.length : Int)).toNat 0 ^^^ ofb b))) (hS.rowEq (m' := List.length (EE.set (Gu.arnd ca (EE.length : Int)).toNat (EE.getD (Gu.arnd ca (EE.length : Int)).toNat 0 ^^^ ofb b))) (cs' := List.map vb (EE.set (Gu.arnd ca (EE.length : Int)).toNat (EE.getD (Gu.arnd ca (EE.length : Int)).toNat 0 ^^^ ofb b))) (by rw [List.length_set]; omega) (by rw [List.map_set])) rfl (by rw [List.length_set]; omega)
  replace hS : St _ [_, _, _, _, _, _, _, _, _, _, _] [_, _, _, _, _] _ := hS
  refine hK17 _ _ ?_
  refine k0 ?_; intro K18 hK18
  obtain ⟨hs0, hhs0, hS⟩ := hS.oh
  obtain ⟨zs0, hzs0, hS⟩ := hS.oz
  obtain ⟨L0, hL0, hF⟩ : ∃ l, l = _ ∧ Fr _ l _ := ⟨_, rfl, hF⟩
  revert hS; revert hF
  refine regI (IS 188 _ [(0, 119), (1, 120), (2, 121), (3, 122), (4, 123), (5, 124), (6, 125), (7, 126), (8, 127), (9, 128), (10, 129), (11, 130), (12, 131), (13, 132), (14, 133), (15, 134), (16, 135), (17, 136), (18, 137), (19, 138), (20, 139), (21, 23)] L0 zs0 (mcH b hs0) (mcF v2 EE raw9 b ca)) [0, 1, 2, 3, 4, 5, 6, 7, 8, 9, 10, 11, 12, 13, 14, 15, 16, 17, 18, 19, 20, 21] mixed kQ (fun w hF hS => IS.start kQ (fun _ => rfl) hF hS) (is := [0, 1, 2, 3, 4, 5, 6, 7, 8, 9, 10, 11, 12, 13, 14, 15, 16, 17, 18, 19, 20, 21]) rfl ⟨?_, ?_, ?_, ?_, ?_, ?_, ?_, ?_, ?_, ?_, ?_, ?_, ?_, ?_, ?_, ?_, ?_, ?_, ?_, ?_, ?_, ?_, trivial⟩ (fun b8 a w hall hI => ?_)
  ·subst hL0
   rintro b8 a w hr ⟨X8, zu8, hF, hS, hle8, hf8⟩
   refine opI_ef (i := 0) rfl hF hS rfl (ef_qt (q_move rfl)) ?_
   rintro _ _ _ a w ⟨rfl, rfl, rfl⟩ hF hS
   subst hzs0
   exact IS.step 0 119 kQ hF hS (by simp) (sN1) rfl hle8 hf8 mcF_mono (fun z9 hz9 => Sl.mono (hz9 zB (by simp)) hzB)
  ·subst hL0
   rintro b8 a w hr ⟨X8, zu8, hF, hS, hle8, hf8⟩
   refine opI_ef (i := 1) rfl hF hS rfl (ef_qt (q_move rfl)) ?_
   rintro _ _ _ a w ⟨rfl, rfl, rfl⟩ hF hS
   subst hzs0
   exact IS.step 1 120 kQ hF hS (by simp) (sN1) rfl hle8 hf8 mcF_mono (fun z9 hz9 => Sl.mono (hz9 _ (by simp)) hz18)
  ·subst hL0
   rintro b8 a w hr ⟨X8, zu8, hF, hS, hle8, hf8⟩
   refine opI_ef (i := 2) rfl hF hS rfl (ef_qt (q_move rfl)) ?_
   rintro _ _ _ a w ⟨rfl, rfl, rfl⟩ hF hS
   exact IS.step 2 121 kQ hF hS (by simp) (sN1) rfl hle8 hf8 mcF_mono (fun z9 hz9 => rfl)
  ·subst hL0
   rintro b8 a w hr ⟨X8, zu8, hF, hS, hle8, hf8⟩
   refine opI_ef (i := 3) rfl hF hS rfl (ef_qt (q_move rfl)) ?_
   rintro _ _ _ a w ⟨rfl, rfl, rfl⟩ hF hS
   subst hzs0
   exact IS.step 3 122 kQ hF hS (by simp) (sN1) rfl hle8 hf8 mcF_mono (fun z9 hz9 => Sl.mono (hz9 _ (by simp)) hz18)
  ·subst hL0
   rintro b8 a w hr ⟨X8, zu8, hF, hS, hle8, hf8⟩
   have f3 : Sl encB zu8 (X8 3) EE := hf8 3 (hr.dn 3 kQ)
   refine opI_ef (i := 4) rfl hF hS rfl (ef_qt (q_len_sl ty39 f3 rfl)) ?_
   rintro _ _ _ a w ⟨rfl, rfl, rfl⟩ hF hS
   exact IS.step 4 123 kQ hF hS (by simp) (sN1) rfl hle8 hf8 mcF_mono (fun z9 hz9 => rfl)
  ·subst hL0
   rintro b8 a w hr ⟨X8, zu8, hF, hS, hle8, hf8⟩
   have f2 : X8 2 = vi ca := hf8 2 (hr.dn 2 kQ)
   have f4 : X8 4 = vi (EE.length : Int) := hf8 4 (hr.dn 4 kQ)
   refine opI_ef (i := 5) rfl hF hS rfl (Ef.weak (fun a hF => hF.sub (L' := [(121, vi ca), (123, vi (EE.length : Int))]) ⟨congrArg some f2, congrArg some f4, trivial⟩) (ef_qt (q_call fn17 rfl (fun w hS => arnd_ct _ _ omQ omQ w) hI))) ?_
   rintro _ _ _ a w ⟨rfl, rfl, rfl⟩ hF hS
   exact IS.step 5 124 kQ hF hS (by simp) (sN1) rfl hle8 hf8 mcF_mono (fun z9 hz9 => rfl)
  ·subst hL0
   rintro b8 a w hr ⟨X8, zu8, hF, hS, hle8, hf8⟩
   have f1 : Sl encB zu8 (X8 1) EE := hf8 1 (hr.dn 1 kQ)
   have f5 : X8 5 = vi (Gu.arnd ca (EE.length : Int)) := hf8 5 (hr.dn 5 kQ)
   refine opI_ef (i := 6) rfl hF hS rfl (Ef.weak (fun a hF => hF.sub (L' := [(120, X8 1), (124, vi (Gu.arnd ca (EE.length : Int)))]) ⟨rfl, congrArg some f5, trivial⟩) (ef_qt (q_slsl_hi ty39 ty5 f1 rfl rfl omQ))) ?_
   rintro _ _ _ a w ⟨rfl, rfl, rfl⟩ hF hS
   exact IS.step 6 125 kQ hF hS (by simp) (sN1) rfl hle8 hf8 mcF_mono (fun z9 hz9 => Sl.mono (hz9 zu8 (by simp)) (Sl.cut f1 omQ))
  ·subst hL0
   rintro b8 a w hr ⟨X8, zu8, hF, hS, hle8, hf8⟩
   refine opI_ef (i := 7) rfl hF hS rfl (ef_qt (q_move rfl)) ?_
   rintro _ _ _ a w ⟨rfl, rfl, rfl⟩ hF hS
   exact IS.step 7 126 kQ hF hS (by simp) (sN1) rfl hle8 hf8 mcF_mono (fun z9 hz9 => rfl)
  ·subst hL0
   rintro b8 a w hr ⟨X8, zu8, hF, hS, hle8, hf8⟩
   have f7 : X8 7 = v2 := hf8 7 (hr.dn 7 kQ)
   refine opI_ef (i := 8) rfl hF hS rfl (Ef.weak (fun a hF => hF.sub (L' := [(126, v2)]) ⟨congrArg some f7, trivial⟩) (ef_call fn44 rfl (fun w hS => rfew_ct _ _ _ 60 rfl w (Sl.mono (hS.le zin0) hb2)))) ?_
   rintro v9 _ _ a w ⟨_, _, rfl, rfl, rfl, rfl⟩ hF hS
   replace hS : St _ (_ :: _) (_ :: _) _ := hS
   obtain ⟨zq, hzq, hS⟩ := St.freezeB hS rfl (by rw [List.length_take]; omega)
   exact IS.step 8 127 kQ hF hS (by simp) (sN2) rfl hle8 hf8 mcF_mono (fun z9 hz9 => Sl.mono (hz9 zq (by simp)) hzq)
  ·subst hL0
   rintro b8 a w hr ⟨X8, zu8, hF, hS, hle8, hf8⟩
   refine opI_ef (i := 9) rfl hF hS rfl (ef_qt (q_move rfl)) ?_
   rintro _ _ _ a w ⟨rfl, rfl, rfl⟩ hF hS
   exact IS.step 9 128 kQ hF hS (by simp) (sN1) rfl hle8 hf8 mcF_mono (fun z9 hz9 => rfl)
  ·subst hL0
   rintro b8 a w hr ⟨X8, zu8, hF, hS, hle8, hf8⟩
   have f9 : X8 9 = vi b := hf8 9 (hr.dn 9 kQ)
   refine opI_ef (i := 10) rfl hF hS rfl (Ef.weak (fun a hF => hF.sub (L' := [(128, vi b)]) ⟨congrArg some f9, trivial⟩) (ef_bsliceA ty22 ty3 rfl rfl oQ deQ rfl rfl)) ?_
   rintro v9 _ _ a w ⟨rfl, rfl⟩ hF hS
   obtain ⟨zq, hzq, hS⟩ := St.freezeV (h0 := fun _ => rfl) (f := vi) (p := fun x => -9223372036854775808 ≤ x ∧ x ≤ 9223372036854775807) (xs := [b]) hS rfl (by simp) (by intro x hx; rw [List.mem_singleton] at hx; subst hx; exact hb9)
   exact IS.step 10 129 kQ hF hS (by simp) (sN2) rfl hle8 hf8 mcF_mono (fun z9 hz9 => Sl.mono (hz9 zq (by simp)) hzq)
  ·subst hL0
   rintro b8 a w hr ⟨X8, zu8, hF, hS, hle8, hf8⟩
   have f10 : Sl Go.Fw.encI zu8 (X8 10) [b] := hf8 10 (hr.dn 10 kQ)
   refine opI_ef (i := 11) rfl hF hS rfl (ef_call fn45 rfl (fun w hS => wints_ct _ [b] (show 1 < 1048576 by decide) w (Sl.mono (hS.le (.inr (by simp))) f10))) ?_
   rintro v9 _ _ a w ⟨_, _, rfl, rfl, rfl, rfl⟩ hF hS
   have n14 : b8 14 = false := hr.no 14 kQ
   have n16 : b8 16 = false := hr.no 16 kQ
   rw [mcH_00 (by rw [hr.me]; rfl) (by rw [n16]; rfl)] at hS
   exact IS.step 11 130 kQ hF hS (by simp) (sN1) (mcH_10 (i := b) (hs0 := hs0) (b := updB b8 11) (X := updX X8 11 v9) (by show (true && !b8 14) = true; rw [n14]; rfl) (by show (b8 16 && !b8 19) = false; rw [n16]; rfl)).symm hle8 hf8 mcF_mono (fun z9 hz9 => trivial)
  ·subst hL0
   rintro b8 a w hr ⟨X8, zu8, hF, hS, hle8, hf8⟩
   refine opI_ef (i := 12) rfl hF hS rfl (ef_bsliceA ty47 ty9 rfl rfl oQ deQ rfl rfl) ?_
   rintro v9 _ _ a w ⟨rfl, rfl⟩ hF hS
   obtain ⟨zq, hzq, hS⟩ := St.freezeV (h0 := fun _ => rfl) (f := vs) (p := fun s => s.length ≤ 140737488355328) (xs := [[97]]) hS rfl deQ deQ
   exact IS.step 12 131 kQ hF hS (by simp) (sN2) rfl hle8 hf8 mcF_mono (fun z9 hz9 => Sl.mono (hz9 zq (by simp)) hzq)
  ·subst hL0
   rintro b8 a w hr ⟨X8, zu8, hF, hS, hle8, hf8⟩
   have f12 : Sl Go.Fw.encS zu8 (X8 12) [[97]] := hf8 12 (hr.dn 12 kQ)
   refine opI_ef (i := 13) rfl hF hS rfl (ef_call fn46 rfl (fun w hS => wstrs_ct _ _ deQ deQ w (Sl.mono (hS.le (.inr (by simp))) f12))) ?_
   rintro v9 _ _ a w ⟨_, _, rfl, rfl, rfl, rfl⟩ hF hS
   replace hS : St _ (_ :: _) (_ :: _) _ := hS
   obtain ⟨zq, hzq, hS⟩ := St.freezeB hS rfl omQ
   exact IS.step 13 132 kQ hF hS (by simp) (sN2) rfl hle8 hf8 mcF_mono (fun z9 hz9 => Sl.mono (hz9 zq (by simp)) hzq)
  ·subst hL0
   rintro b8 a w hr ⟨X8, zu8, hF, hS, hle8, hf8⟩
   have f13 : Sl encB zu8 (X8 13) (Wi.strs [[97]]) := hf8 13 (hr.dn 13 kQ)
   have d11 : b8 11 = true := hr.dn 11 kQ
   have n16 : b8 16 = false := hr.no 16 kQ
   rw [mcH_10 (by rw [d11, hr.me]; rfl) (by rw [n16]; rfl)] at hS
   refine opI_ef (i := 14) rfl hF hS rfl (ef_append ty39 ty5 0 rfl rfl rfl (src_slV ty39 f13 (.inr (by simp))) omQ rfl deQ) ?_
   rintro v9 _ _ a w ⟨rfl, rfl⟩ hF hS
   replace hS : St _ (_ :: _) (_ :: _) _ := hS
   obtain ⟨zq, hzq, hS⟩ := St.freezeB (xs := (Wi.ints [b] ++ Wi.strs [[97]])) (hS.rowEq (m' := List.length (Wi.ints [b] ++ Wi.strs [[97]])) (cs' := List.map vb (Wi.ints [b] ++ Wi.strs [[97]])) (by rw [List.length_append]) (by rw [List.map_append])) rfl (by rw [List.length_append]; omega)
   exact IS.step 14 133 kQ hF hS (by simp) (sN2) (mcH_00 (i := b) (hs0 := hs0) (b := updB b8 14) (X := updX X8 14 v9) (by show (b8 11 && !true) = false; rw [Bool.not_true, Bool.and_false]) (by show (b8 16 && !b8 19) = false; rw [n16]; rfl)).symm hle8 hf8 mcF_mono (fun z9 hz9 => Sl.mono (hz9 zq (by simp)) hzq)
  ·subst hL0
   rintro b8 a w hr ⟨X8, zu8, hF, hS, hle8, hf8⟩
   refine opI_ef (i := 15) rfl hF hS rfl (ef_bsliceA ty22 ty3 rfl rfl oQ deQ rfl rfl) ?_
   rintro v9 _ _ a w ⟨rfl, rfl⟩ hF hS
   obtain ⟨zq, hzq, hS⟩ := St.freezeV (h0 := fun _ => rfl) (f := vi) (p := fun x => -9223372036854775808 ≤ x ∧ x ≤ 9223372036854775807) (xs := [0, 1]) hS rfl (by simp) deQ
   exact IS.step 15 134 kQ hF hS (by simp) (sN2) rfl hle8 hf8 mcF_mono (fun z9 hz9 => Sl.mono (hz9 zq (by simp)) hzq)
  ·subst hL0
   rintro b8 a w hr ⟨X8, zu8, hF, hS, hle8, hf8⟩
   have f15 : Sl Go.Fw.encI zu8 (X8 15) [0, 1] := hf8 15 (hr.dn 15 kQ)
   refine opI_ef (i := 16) rfl hF hS rfl (ef_call fn45 rfl (fun w hS => wints_ct _ [0, 1] deQ w (Sl.mono (hS.le (.inr (by simp))) f15))) ?_
   rintro v9 _ _ a w ⟨_, _, rfl, rfl, rfl, rfl⟩ hF hS
   have d14 : b8 14 = true := hr.dn 14 kQ
   have n19 : b8 19 = false := hr.no 19 kQ
   rw [mcH_00 (by rw [d14, Bool.not_true, Bool.and_false]) (by rw [hr.me]; rfl)] at hS
   exact IS.step 16 135 kQ hF hS (by simp) (sN1) (mcH_01 (i := b) (hs0 := hs0) (b := updB b8 16) (X := updX X8 16 v9) (by show (b8 11 && !b8 14) = false; rw [d14, Bool.not_true, Bool.and_false]) (by show (true && !b8 19) = true; rw [n19]; rfl)).symm hle8 hf8 mcF_mono (fun z9 hz9 => trivial)
  ·subst hL0
   rintro b8 a w hr ⟨X8, zu8, hF, hS, hle8, hf8⟩
   refine opI_ef (i := 17) rfl hF hS rfl (ef_bsliceA ty47 ty9 rfl rfl oQ deQ rfl rfl) ?_
   rintro v9 _ _ a w ⟨rfl, rfl⟩ hF hS
   obtain ⟨zq, hzq, hS⟩ := St.freezeV (h0 := fun _ => rfl) (f := vs) (p := fun s => s.length ≤ 140737488355328) (xs := [[97]]) hS rfl deQ deQ
   exact IS.step 17 136 kQ hF hS (by simp) (sN2) rfl hle8 hf8 mcF_mono (fun z9 hz9 => Sl.mono (hz9 zq (by simp)) hzq)
  ·subst hL0
   rintro b8 a w hr ⟨X8, zu8, hF, hS, hle8, hf8⟩
   have f17 : Sl Go.Fw.encS zu8 (X8 17) [[97]] := hf8 17 (hr.dn 17 kQ)
   refine opI_ef (i := 18) rfl hF hS rfl (ef_call fn46 rfl (fun w hS => wstrs_ct _ _ deQ deQ w (Sl.mono (hS.le (.inr (by simp))) f17))) ?_
   rintro v9 _ _ a w ⟨_, _, rfl, rfl, rfl, rfl⟩ hF hS
   replace hS : St _ (_ :: _) (_ :: _) _ := hS
   obtain ⟨zq, hzq, hS⟩ := St.freezeB hS rfl omQ
   exact IS.step 18 137 kQ hF hS (by simp) (sN2) rfl hle8 hf8 mcF_mono (fun z9 hz9 => Sl.mono (hz9 zq (by simp)) hzq)
  ·subst hL0
   rintro b8 a w hr ⟨X8, zu8, hF, hS, hle8, hf8⟩
   have f18 : Sl encB zu8 (X8 18) (Wi.strs [[97]]) := hf8 18 (hr.dn 18 kQ)
   have d14 : b8 14 = true := hr.dn 14 kQ
   have d16 : b8 16 = true := hr.dn 16 kQ
   rw [mcH_01 (by rw [d14, Bool.not_true, Bool.and_false]) (by rw [d16, hr.me]; rfl)] at hS
   refine opI_ef (i := 19) rfl hF hS rfl (ef_append ty39 ty5 0 rfl rfl rfl (src_slV ty39 f18 (.inr (by simp))) omQ rfl deQ) ?_
   rintro v9 _ _ a w ⟨rfl, rfl⟩ hF hS
   replace hS : St _ (_ :: _) (_ :: _) _ := hS
   obtain ⟨zq, hzq, hS⟩ := St.freezeB (xs := (Wi.ints [0, 1] ++ Wi.strs [[97]])) (hS.rowEq (m' := List.length (Wi.ints [0, 1] ++ Wi.strs [[97]])) (cs' := List.map vb (Wi.ints [0, 1] ++ Wi.strs [[97]])) (by rw [List.length_append]) (by rw [List.map_append])) rfl (by rw [List.length_append]; omega)
   exact IS.step 19 138 kQ hF hS (by simp) (sN2) (mcH_00 (i := b) (hs0 := hs0) (b := updB b8 19) (X := updX X8 19 v9) (by show (b8 11 && !b8 14) = false; rw [d14, Bool.not_true, Bool.and_false]) (by show (b8 16 && !true) = false; rw [Bool.not_true, Bool.and_false])).symm hle8 hf8 mcF_mono (fun z9 hz9 => Sl.mono (hz9 zq (by simp)) hzq)
  ·subst hL0
   rintro b8 a w hr ⟨X8, zu8, hF, hS, hle8, hf8⟩
   have f0 : Sl encB zu8 (X8 0) (EE.set (Gu.arnd ca (EE.length : Int)).toNat (EE.getD (Gu.arnd ca (EE.length : Int)).toNat 0 ^^^ ofb b)) := hf8 0 (hr.dn 0 kQ)
   have f6 : Sl encB zu8 (X8 6) (List.drop 0 (List.take (Gu.arnd ca (EE.length : Int)).toNat EE)) := hf8 6 (hr.dn 6 kQ)
   have f8 : Sl encB zu8 (X8 8) (raw9.take 60) := hf8 8 (hr.dn 8 kQ)
   have f14 : Sl encB zu8 (X8 14) (Wi.ints [b] ++ Wi.strs [[97]]) := hf8 14 (hr.dn 14 kQ)
   have f19 : Sl encB zu8 (X8 19) (Wi.ints [0, 1] ++ Wi.strs [[97]]) := hf8 19 (hr.dn 19 kQ)
   refine opI_ef (i := 20) rfl hF hS rfl (ef_bsliceA ty91 ty39 rfl rfl (oc_cons (sl_one' f0) (oc_cons (sl_one' f6) (oc_cons (sl_one' f8) (oc_cons (sl_one' f14) (oc_cons (sl_one' f19) oc_nil))))) deQ rfl rfl) ?_
   rintro v9 _ _ a w ⟨rfl, rfl⟩ hF hS
   replace hS : St _ (_ :: _) (_ :: _) _ := hS
   obtain ⟨zq, hzq, hS⟩ := St.freezeSl (E := encB) (z' := zu8) (xs := [(EE.set (Gu.arnd ca (EE.length : Int)).toNat (EE.getD (Gu.arnd ca (EE.length : Int)).toNat 0 ^^^ ofb b)), (List.drop 0 (List.take (Gu.arnd ca (EE.length : Int)).toNat EE)), (raw9.take 60), (Wi.ints [b] ++ Wi.strs [[97]]), (Wi.ints [0, 1] ++ Wi.strs [[97]])]) hS (by simp) rfl deQ ⟨f0, f6, f8, f14, f19, trivial⟩
   exact IS.step 20 139 kQ hF hS (by simp) (sN2) rfl hle8 hf8 mcF_mono (fun z9 hz9 => Sl.mono (hz9 zq (by simp)) hzq)
  ·subst hL0
   rintro b8 a w hr ⟨X8, zu8, hF, hS, hle8, hf8⟩
   have f20 : Sl (encSl encB) zu8 (X8 20) [(EE.set (Gu.arnd ca (EE.length : Int)).toNat (EE.getD (Gu.arnd ca (EE.length : Int)).toNat 0 ^^^ ofb b)), (List.drop 0 (List.take (Gu.arnd ca (EE.length : Int)).toNat EE)), (raw9.take 60), (Wi.ints [b] ++ Wi.strs [[97]]), (Wi.ints [0, 1] ++ Wi.strs [[97]])] := hf8 20 (hr.dn 20 kQ)
   refine opI_ef (i := 21) rfl hF hS rfl (ef_qt (q_assign rfl)) ?_
   rintro _ _ _ a w ⟨rfl, rfl, rfl⟩ hF hS
   exact IS.step 21 23 kQ hF hS (by simp) (sN1) rfl hle8 hf8 mcF_mono (fun z9 hz9 => Sl.mono (hz9 zu8 (by simp)) f20)
  obtain ⟨X8, zu8, hF, hS, hle8, hf8⟩ := hI
  have hzT : Sl (encSl encB) zu8 (X8 21) [(EE.set (Gu.arnd ca (EE.length : Int)).toNat (EE.getD (Gu.arnd ca (EE.length : Int)).toNat 0 ^^^ ofb b)), (List.drop 0 (List.take (Gu.arnd ca (EE.length : Int)).toNat EE)), (raw9.take 60), (Wi.ints [b] ++ Wi.strs [[97]]), (Wi.ints [0, 1] ++ Wi.strs [[97]])] := hf8 21 (hall 21 deQ)
  rw [mcH_00 (by rw [hall 14 deQ, Bool.not_true, Bool.and_false]) (by rw [hall 19 deQ, Bool.not_true, Bool.and_false])] at hS
  subst hhs0 hzs0 hL0
  replace hF := hF.sub (L' := [(3, _), (4, _), (5, _), (16, _), (17, _), (23, X8 21)]) ⟨rfl, rfl, rfl, rfl, rfl, rfl, trivial⟩
  rw [← hTT] at hzT
  replace hS : St _ [_, _, _, _, _, _, _, _, _, _, _, _] [_, _, _, _, _] _ := hS
  refine hK18 _ _ ?_
  refine regS hF hS (aQ rfl <| sq_end) fun a w hF hS => ?_
  refine wp_block ?_
  obtain ⟨hs0, hhs0, hS⟩ := hS.oh
  refine wp_loopx (γ := Int) (0) (fun (j : Int) => [(24, vi j)]) [(3, _), (4, _), (5, _), (16, _), (17, _), (23, _)] (fun (j : Int) => hs0) (fun (j : Int) => 0 ≤ j ∧ j ≤ 5) (fun (j : Int) => (5 - j).toNat) (hF.sub ⟨rfl, rfl, rfl, rfl, rfl, rfl, rfl, trivial⟩) (by subst hhs0; exact hS) (by exact ⟨Int.le_refl _, by omega⟩) ?_
  rintro j a w hfact hF hS
  subst hhs0; (try dsimp only at hfact hF hS)
  obtain ⟨hj0, hj1⟩ := hfact
  replace hS : St _ [_, _, _, _, _, _, _, _, _, _, _, _] [_, _, _, _, _] _ := hS
  refine k0 ?_; intro K20 hK20
  refine regS hF hS (mQ rfl <| mQ rfl <| q0 (q_len_sl ty91 hzT rfl) <| q0 (q_lti rfl rfl) <| sq_end) fun a w hF hS => ?_
  refine wp_ifd hF rfl (fun hc4 => ?_) (fun hc4 => ?_)
  ·have hTj := hTb j.toNat
   have hdl := Mk.dec_len (b := (TT.getD j.toNat [])) omQ
   have hcut : j = 1 → ¬ (Mk.decPf (TT.getD j.toNat [])).2.2 = 0 := by
    intro hj
    rw [hj, hTT]
    show ¬ (Mk.decPf (List.drop 0 (List.take (Gu.arnd ca (EE.length : Int)).toNat EE))).2.2 = 0
    rw [List.drop_zero, hEE]
    exact Mk.cut_pf hok (by rw [← hEE]; omega)
   refine wp_skip ?_
   refine hK20 _ _ ?_
   refine k0 ?_; intro K22 hK22
   refine wp_block ?_
   refine reglS fun K23 hK23 => ?_
   refine lQ hF hS (mQ rfl <| mQ rfl <| q0 (q_idx_sl ty91 ty39 hzT rfl rfl omQ) <| q0 (q_ld_Sl ty39 hzT (.inr (by simp)) rfl rfl omQ) <| sq_end) fun a w hF hS => ?_
   refine eQ hF hS rfl (ef_call fn43 rfl (fun w hS => dec_ct _ _ omQ w (Sl.mono (hS.le (.inr (by simp))) (elemV_sl hzT omQ)))) ?_
   rintro _ _ _ a w ⟨_, _, rfl, rfl, ⟨l38, s39, z40, rfl, hl41, hs42, rfl, rfl⟩⟩ hF hS
   replace hS : St _ [_, _, _, _, _, _, _, _, _, _, _, _, _] [_, _, _, _, _] _ := hS
   refine lQ hF hS (mQ rfl <| q0 (q_extract rfl rfl) <| q0 (q_extract rfl rfl) <| q0 (q_extract rfl rfl) <| sq_end) fun a w hF hS => ?_
   refine eQ hF hS rfl (ef_allocA ty50) ?_
   rintro _ _ _ a w ⟨b43, rfl, rfl, rfl⟩ hF hS
   refine eQ hF hS rfl (ef_storeW ty50 0 rfl rfl rfl rfl bQ (oc_cons rfl (oc_cons rfl (oc_cons (sl_one' hl41) (oc_cons (sl_one' hs42) oc_nil)))) bQ) ?_
   rintro _ _ _ a w ⟨rfl, rfl, rfl⟩ hF hS
   replace hS : St _ [_, _, _, _, _, _, _, _, _, _, _, _, _] [_, _, _, _, _, _] _ := hS
   refine lQ hF hS (aQ rfl <| aQ rfl <| sq_end) fun a w hF hS => ?_
   refine wpList_nil (hK23 _ _ ?_)
   refine reglS fun K24 hK24 => ?_
   refine lQ hF hS (mQ rfl <| mQ rfl <| q0 (q_idx_sl ty91 ty39 hzT rfl rfl omQ) <| q0 (q_ld_Sl ty39 hzT (.inr (by simp)) rfl rfl omQ) <| sq_end) fun a w hF hS => ?_
   refine eQ hF hS rfl (ef_call fn47 rfl (fun w hS => rdec_ct _ _ omQ w (Sl.mono (hS.le (.inr (by simp))) (elemV_sl hzT omQ)))) ?_
   rintro _ _ _ a w ⟨_, _, rfl, rfl, ⟨l45, s46, z47, rfl, hl48, hs49, rfl, rfl⟩⟩ hF hS
   replace hS : St _ [_, _, _, _, _, _, _, _, _, _, _, _, _, _] [_, _, _, _, _, _] _ := hS
   refine lQ hF hS (mQ rfl <| q0 (q_extract rfl rfl) <| q0 (q_extract rfl rfl) <| q0 (q_extract rfl rfl) <| sq_end) fun a w hF hS => ?_
   refine eQ hF hS rfl (ef_allocA ty54) ?_
   rintro _ _ _ a w ⟨b50, rfl, rfl, rfl⟩ hF hS
   refine eQ hF hS rfl (ef_storeW ty54 0 rfl rfl rfl rfl bQ (oc_cons rfl (oc_cons rfl (oc_cons (sl_one' hl48) (oc_cons (sl_one' hs49) oc_nil)))) bQ) ?_
   rintro _ _ _ a w ⟨rfl, rfl, rfl⟩ hF hS
   replace hS : St _ [_, _, _, _, _, _, _, _, _, _, _, _, _, _] [_, _, _, _, _, _, _] _ := hS
   refine lQ hF hS (aQ rfl <| aQ rfl <| sq_end) fun a w hF hS => ?_
   refine wpList_nil (hK24 _ _ ?_)
   refine k0 ?_; intro K25 hK25
   rcases Decidable.em (j = 1) with hA | hA
   ·skip
    revert hS; revert hF; apply regJ (J := J2 (α0 := Value) (α1 := PH) 188 _ _ _ _ _) #[false, false, false, false, false, false, false, false, false, false, false, false, false, false, false, false, false, false, false, false, false, false, false] 23 mixed rfl rfl
    ·intro w hF hS
     refine tQ 0 rfl hF (hS.keep sQ zQ) (q_move rfl) fun a hF => ?_
     refine tQ 1 rfl hF (hS.keep sQ zQ) (q_move rfl) fun a hF => ?_
     refine tQ 2 rfl hF (hS.keep sQ zQ) (q_nf (q_nei rfl rfl) (rfl)) fun a hF => ?_
     refine tQ 3 rfl hF (hS.keep sQ zQ) (q_move rfl) fun a hF => ?_
     refine goW_takeg 4 _ rfl (wanted_go 167 rfl rfl) kQ rfl hF (hS.keep sQ zQ) (q_move rfl) fun a hF => ?_
     refine goW_takeg 5 _ rfl (wanted_go 167 rfl rfl) kQ rfl hF (hS.keep sQ zQ) (q_move rfl) fun a hF => ?_
     refine goW_takeg 6 _ rfl (wanted_go 167 rfl rfl) kQ rfl hF (hS.keep sQ zQ) (q_nf (q_nei rfl rfl) (rfl)) fun a hF => ?_
     refine tQ 7 rfl hF (hS.keep sQ zQ) (q_pick_f rfl rfl) fun a hF => ?_
     refine tQ 8 rfl hF (hS.keep sQ zQ) (q_move rfl) fun a hF => ?_
     refine goW_takeg 9 _ rfl (wanted_go 172 rfl rfl) kQ rfl hF (hS.keep sQ (zQ.k.n)) (q_ld_blkW ty50 0 rfl rfl bQ rfl) fun a hF => ?_
     refine goW_takeg 11 _ rfl (wanted_go 172 rfl rfl) kQ rfl hF (hS.keep sQ (zQ.k)) (q_ld_blkW ty54 0 rfl rfl bQ rfl) fun a hF => ?_
     refine goW_fork [10] kQ rfl ⟨?_, trivial⟩
     refine stepW_efg _ rfl (wanted_go 172 rfl rfl) rfl hF hS rfl (ef_call fn27 rfl (fun w hS => model_ct (Mk.decPf (TT.getD j.toNat [])).1 _ _ omQ w (Sl.mono (hS.le (.inr (by simp))) hl41) (Sl.mono (hS.le (.inr (by simp))) hs42))) ?_
     rintro _ _ _ a w ⟨_, _, rfl, rfl, ⟨l_21_10, z_21_10, rfl, hl_21_10, rfl, rfl⟩⟩ hF hS
     refine ⟨⟨.inr (hS.keep (sN1) (zQ.k)), iQ, iQ, iQ, .inr (hS.keep (sN1) zQ), .inr (hS.keep (sN1) zQ), .inr (hS.keep (sN1) zQ), iQ, .inr (hS.keep (sN1) zQ), .inr (hS.keep (sN1) zQ), .inr (hS.keep (sN1) zQ), trivial⟩, ?_⟩
     refine goW_fork [12] kQ rfl ⟨?_, trivial⟩
     refine stepW_efg _ rfl (wanted_go 172 rfl rfl) rfl hF hS rfl (ef_qt (q_call fn26 rfl (fun w hS => samep_ct (Mk.decPf (TT.getD j.toNat [])).1 (Mk.decPf (TT.getD j.toNat [])).1 _ _ _ _ w (Sl.mono (hS.le (.inr (by simp))) hl_21_10) (Sl.mono (hS.le (.inr (by simp))) hs42) (Sl.mono (hS.le (.inr (by simp))) hl48) (Sl.mono (hS.le (.inr (by simp))) hs49)) hI)) ?_
     rintro _ _ _ a w ⟨rfl, rfl, rfl⟩ hF hS
     refine ⟨⟨iQ, iQ, iQ, iQ, .inr (hS.keep (sN1) zQ), .inr (hS.keep (sN1) zQ), .inr (hS.keep (sN1) zQ), iQ, .inr (hS.keep (sN1) zQ), .inr (hS.keep (sN1) zQ), .inr (hS.keep (sN1) zQ), trivial⟩, ?_⟩
     refine goW_takeg 13 _ rfl (wanted_go 172 rfl rfl) kQ rfl hF (hS.keep sQ zQ) (q_bf (q_not rfl) (by rw [Mk.same_refl]; rfl)) fun a hF => ?_
     refine tQ 14 rfl hF (hS.keep sQ zQ) (q_pick_f rfl rfl) fun a hF => ?_
     refine tQ 15 rfl hF (hS.keep sQ zQ) (q_move rfl) fun a hF => ?_
     refine goW_takeg 16 _ rfl (wanted_go 179 rfl rfl) kQ rfl hF (hS.keep sQ zQ) (q_move rfl) fun a hF => ?_
     refine goW_takeg 17 _ rfl (wanted_go 179 rfl rfl) kQ rfl hF (hS.keep sQ zQ) (q_dt (q_eqi rfl rfl) (hA)) fun a hF => ?_
     refine goW_takeg 18 _ rfl (wanted_go 179 rfl rfl) kQ rfl hF (hS.keep sQ zQ) (q_move rfl) fun a hF => ?_
     refine goW_takeg 19 _ rfl (wanted_go 182 rfl rfl) kQ rfl hF (hS.keep sQ zQ) (q_move rfl) fun a hF => ?_
     refine goW_takeg 20 _ rfl (wanted_go 182 rfl rfl) kQ rfl hF (hS.keep sQ zQ) (q_df (q_eqi rfl rfl) (hcut hA)) fun a hF => ?_
     refine goW_takeg 21 _ rfl (wanted_go 179 rfl rfl) kQ rfl hF (hS.keep sQ zQ) (q_pick_t rfl rfl) fun a hF => ?_
     refine tQ 22 rfl hF (hS.keep sQ zQ) (q_pick_f rfl rfl) fun a hF => ?_
     exact goW_done kQ (j2_mk l_21_10 z_21_10 ((And.intro hl_21_10 trivial)) (hF.sub (L' := [(3, _), (4, _), (5, _), (16, _), (17, _), (23, _), (24, _), (186, _)]) ⟨rfl, rfl, rfl, rfl, rfl, rfl, rfl, rfl, trivial⟩) hS)
    rintro a w ⟨l_21_10, z_21_10, ⟨hl_21_10, -⟩, hF, hS⟩
    (try dsimp only at hF hS)
    refine hK25 _ _ ?_
    refine wp_if hF rfl (fun h => absurd h (by simp)) (fun _ => ?_)
    refine wp_skip ?_
    refine hK22 _ _ ?_
    refine reg hF hS (mQ rfl <| pQ rfl rfl <| aQ rfl <| sq_end) fun a w hF hS => ?_
    replace hS := hS.keep (sN3) (sN2)
    refine ⟨(j + 1), ?_, ?_, hF.sub ⟨rfl, rfl, rfl, rfl, rfl, rfl, rfl, trivial⟩, ?_⟩
    ·(try dsimp only); omega
    ·(try dsimp only); omega
    ·exact hS
   ·skip
    revert hS; revert hF; apply regJ (J := J2 (α0 := Value) (α1 := PH) 188 _ _ _ _ _) #[false, false, false, false, false, false, false, false, false, false, false, false, false, false, false, false, false, false, false, false, false, false, false] 23 mixed rfl rfl
    ·intro w hF hS
     refine tQ 0 rfl hF (hS.keep sQ zQ) (q_move rfl) fun a hF => ?_
     refine tQ 1 rfl hF (hS.keep sQ zQ) (q_move rfl) fun a hF => ?_
     refine tQ 2 rfl hF (hS.keep sQ zQ) (q_nf (q_nei rfl rfl) (rfl)) fun a hF => ?_
     refine tQ 3 rfl hF (hS.keep sQ zQ) (q_move rfl) fun a hF => ?_
     refine goW_takeg 4 _ rfl (wanted_go 167 rfl rfl) kQ rfl hF (hS.keep sQ zQ) (q_move rfl) fun a hF => ?_
     refine goW_takeg 5 _ rfl (wanted_go 167 rfl rfl) kQ rfl hF (hS.keep sQ zQ) (q_move rfl) fun a hF => ?_
     refine goW_takeg 6 _ rfl (wanted_go 167 rfl rfl) kQ rfl hF (hS.keep sQ zQ) (q_nf (q_nei rfl rfl) (rfl)) fun a hF => ?_
     refine tQ 7 rfl hF (hS.keep sQ zQ) (q_pick_f rfl rfl) fun a hF => ?_
     refine tQ 8 rfl hF (hS.keep sQ zQ) (q_move rfl) fun a hF => ?_
     refine goW_takeg 9 _ rfl (wanted_go 172 rfl rfl) kQ rfl hF (hS.keep sQ (zQ.k.n)) (q_ld_blkW ty50 0 rfl rfl bQ rfl) fun a hF => ?_
     refine goW_takeg 11 _ rfl (wanted_go 172 rfl rfl) kQ rfl hF (hS.keep sQ (zQ.k)) (q_ld_blkW ty54 0 rfl rfl bQ rfl) fun a hF => ?_
     refine goW_fork [10] kQ rfl ⟨?_, trivial⟩
     refine stepW_efg _ rfl (wanted_go 172 rfl rfl) rfl hF hS rfl (ef_call fn27 rfl (fun w hS => model_ct (Mk.decPf (TT.getD j.toNat [])).1 _ _ omQ w (Sl.mono (hS.le (.inr (by simp))) hl41) (Sl.mono (hS.le (.inr (by simp))) hs42))) ?_
     rintro _ _ _ a w ⟨_, _, rfl, rfl, ⟨l_21_10, z_21_10, rfl, hl_21_10, rfl, rfl⟩⟩ hF hS
     refine ⟨⟨.inr (hS.keep (sN1) (zQ.k)), iQ, iQ, iQ, .inr (hS.keep (sN1) zQ), .inr (hS.keep (sN1) zQ), .inr (hS.keep (sN1) zQ), iQ, .inr (hS.keep (sN1) zQ), .inr (hS.keep (sN1) zQ), .inr (hS.keep (sN1) zQ), trivial⟩, ?_⟩
     refine goW_fork [12] kQ rfl ⟨?_, trivial⟩
     refine stepW_efg _ rfl (wanted_go 172 rfl rfl) rfl hF hS rfl (ef_qt (q_call fn26 rfl (fun w hS => samep_ct (Mk.decPf (TT.getD j.toNat [])).1 (Mk.decPf (TT.getD j.toNat [])).1 _ _ _ _ w (Sl.mono (hS.le (.inr (by simp))) hl_21_10) (Sl.mono (hS.le (.inr (by simp))) hs42) (Sl.mono (hS.le (.inr (by simp))) hl48) (Sl.mono (hS.le (.inr (by simp))) hs49)) hI)) ?_
     rintro _ _ _ a w ⟨rfl, rfl, rfl⟩ hF hS
     refine ⟨⟨iQ, iQ, iQ, iQ, .inr (hS.keep (sN1) zQ), .inr (hS.keep (sN1) zQ), .inr (hS.keep (sN1) zQ), iQ, .inr (hS.keep (sN1) zQ), .inr (hS.keep (sN1) zQ), .inr (hS.keep (sN1) zQ), trivial⟩, ?_⟩
     refine goW_takeg 13 _ rfl (wanted_go 172 rfl rfl) kQ rfl hF (hS.keep sQ zQ) (q_bf (q_not rfl) (by rw [Mk.same_refl]; rfl)) fun a hF => ?_
     refine tQ 14 rfl hF (hS.keep sQ zQ) (q_pick_f rfl rfl) fun a hF => ?_
     refine tQ 15 rfl hF (hS.keep sQ zQ) (q_move rfl) fun a hF => ?_
     refine goW_takeg 16 _ rfl (wanted_go 179 rfl rfl) kQ rfl hF (hS.keep sQ zQ) (q_move rfl) fun a hF => ?_
     refine goW_takeg 17 _ rfl (wanted_go 179 rfl rfl) kQ rfl hF (hS.keep sQ zQ) (q_df (q_eqi rfl rfl) (hA)) fun a hF => ?_
     refine goW_takeg 18 _ rfl (wanted_go 179 rfl rfl) kQ rfl hF (hS.keep sQ zQ) (q_move rfl) fun a hF => ?_
     refine goW_skip 19 #[true, true, true, true, true, true, true, true, true, true, true, true, true, true, true, true, true, true, true, true, false, false, false] rfl (wanted_no 182 rfl rfl rfl) kQ rfl hF hS.k0 fun a hF => ?_
     refine goW_skip 20 #[true, true, true, true, true, true, true, true, true, true, true, true, true, true, true, true, true, true, true, true, true, false, false] rfl (wanted_no 182 rfl rfl rfl) kQ rfl hF hS.k0 fun a hF => ?_
     refine goW_takeg 21 _ rfl (wanted_go 179 rfl rfl) kQ rfl hF (hS.keep sQ zQ) (q_pick_f rfl rfl) fun a hF => ?_
     refine tQ 22 rfl hF (hS.keep sQ zQ) (q_pick_f rfl rfl) fun a hF => ?_
     exact goW_done kQ (j2_mk l_21_10 z_21_10 ((And.intro hl_21_10 trivial)) (hF.sub (L' := [(3, _), (4, _), (5, _), (16, _), (17, _), (23, _), (24, _), (186, _)]) ⟨rfl, rfl, rfl, rfl, rfl, rfl, rfl, rfl, trivial⟩) hS)
    rintro a w ⟨l_21_10, z_21_10, ⟨hl_21_10, -⟩, hF, hS⟩
    (try dsimp only at hF hS)
    refine hK25 _ _ ?_
    refine wp_if hF rfl (fun h => absurd h (by simp)) (fun _ => ?_)
    refine wp_skip ?_
    refine hK22 _ _ ?_
    refine reg hF hS (mQ rfl <| pQ rfl rfl <| aQ rfl <| sq_end) fun a w hF hS => ?_
    replace hS := hS.keep (sN3) (sN2)
    refine ⟨(j + 1), ?_, ?_, hF.sub ⟨rfl, rfl, rfl, rfl, rfl, rfl, rfl, trivial⟩, ?_⟩
    ·(try dsimp only); omega
    ·(try dsimp only); omega
    ·exact hS
  ·refine wp_exit ?_
   refine hK9 _ _ ?_
   refine reg hF hS (mQ rfl <| pQ rfl rfl <| aQ rfl <| sq_end) fun a w hF hS => ?_
   replace hS := hS.keep (sN6) (sN4)
   refine ⟨(i + 1), ?_, ?_, hF.sub ⟨rfl, rfl, rfl, rfl, rfl, trivial⟩, ?_⟩
   ·(try dsimp only); omega
   ·(try dsimp only); omega
   ·exact hS
 ·refine wp_exit ?_
  refine hK5 _ _ ?_
  refine regS hF hS (q0 (q_call fn19 rfl (fun w hS => lives_ct w (hS.ext _ _ hg1)) hI) <| aQ rfl <| sq_end) fun a w hF hS => ?_
  refine wp_ret ?_
  exact fn_ret (rs := [.tmp 12]) rfl hF hS (vs := [_]) ⟨rfl, trivial⟩ zQ zQ (rfl)
end
end Go.Proofs.YtdojfnigffeblaaDoor
