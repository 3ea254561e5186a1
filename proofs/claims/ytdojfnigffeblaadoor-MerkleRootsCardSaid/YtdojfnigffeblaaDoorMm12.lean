/- A text of a proof over this seat: walks over the program's functions and the plain laws that they need. -/
import Derived.Test.YtdojfnigffeblaaDoorMm11
import Derived.Test.YtdojfnigffeblaaDoorMkA
import Derived.Test.YtdojfnigffeblaaDoorFwB
set_option linter.all false
namespace Go.Proofs.YtdojfnigffeblaaDoor
open Go.Fw
theorem fn12 : FnOk Tryd.prog 12 := ⟨_, Tryd.func12, rfl, by kernel_rfl⟩
theorem fn22 : FnOk Tryd.prog 22 := ⟨_, Tryd.func22, rfl, by kernel_rfl⟩
theorem fn24 : FnOk Tryd.prog 24 := ⟨_, Tryd.func24, rfl, by kernel_rfl⟩
theorem fn29 : FnOk Tryd.prog 29 := ⟨_, Tryd.func29, rfl, by kernel_rfl⟩
theorem fn32 : FnOk Tryd.prog 32 := ⟨_, Tryd.func32, rfl, by kernel_rfl⟩
theorem fn55 : FnOk Tryd.prog 55 := ⟨_, Tryd.func55, rfl, by kernel_rfl⟩

attribute [local irreducible] Sha.sum Sha.mac Sha.ofD Wi.int Wi.ints Wi.bytes Sha.inp Mk.half Lib.compareBytes Mk.frm Mk.rootD Mk.provE Mk.rangE Mk.rootE Mk.chkE Mk.chkR Mk.shown

set_option maxRecDepth 4000 in
set_option maxHeartbeats 2000000 in
theorem five_ct (w : World) : Ct Tryd.prog 55 [] w (SlR encF Mk.fv) := by
 refine fn_enter Tryd.func55 rfl Tryd.ntmps55 (Nat.le_of_ble_eq_true rfl) fun a hF hS => ?_
 refine wp_seq_k ?_; intro K1 hK1
 refine reg hF hS (sq rfl (q_assign rfl) <|
   sq_end) ?_
 clear hF hS; intro a w hF hS
 refine hK1 _ _ ?_
 clear hK1
 refine wp_seq_k ?_; intro K2 hK2
 refine regl ?_
 refine wpl_sq hF hS (sq rfl (q_buildS1 ty41 2 kQ rfl rfl (oc_cons rfl (oc_cons rfl oc_nil)) rfl rfl) <|
   sq rfl (q_buildS1 ty41 2 kQ rfl rfl (oc_cons rfl (oc_cons rfl oc_nil)) rfl rfl) <|
   sq rfl (q_buildS1 ty41 2 kQ rfl rfl (oc_cons rfl (oc_cons rfl oc_nil)) rfl rfl) <|
   sq rfl (q_buildS1 ty41 2 kQ rfl rfl (oc_cons rfl (oc_cons rfl oc_nil)) rfl rfl) <|
   sq rfl (q_buildS1 ty41 2 kQ rfl rfl (oc_cons rfl (oc_cons rfl oc_nil)) rfl rfl) <|
   sq_end) ?_
 clear hF hS; intro a w hF hS
 refine wpl_ef hF hS rfl (ef_bsliceC ty33 ty41 [[_, _], [_, _], [_, _], [_, _], [_, _]] rfl rfl (by simp) (oc2_cons (oc_cons rfl (oc_cons rfl oc_nil)) (oc2_cons (oc_cons rfl (oc_cons rfl oc_nil)) (oc2_cons (oc_cons rfl (oc_cons rfl oc_nil)) (oc2_cons (oc_cons rfl (oc_cons rfl oc_nil)) (oc2_cons (oc_cons rfl (oc_cons rfl oc_nil)) oc2_nil))))) (by decide) rfl rfl) ?_
 clear hF hS; rintro v1 _ _ a w ⟨rfl, rfl⟩ hF hS
 replace hS : St _ [] [_] _ := hS
 refine wpl_sq hF hS (sq rfl (q_assign rfl) <|
   sq_end) ?_
 clear hF hS; intro a w hF hS
 refine wpList_nil ?_
 refine hK2 _ _ ?_
 clear hK2
 refine wp_ret ?_
 obtain ⟨zr, hzr, hS⟩ := St.freezeF (xs := Mk.fv) (hS.rowEq (m' := List.length (Mk.fv)) (cs' := List.flatMap kvC (Mk.fv)) (rfl) (rfl)) rfl (by decide) (by intro x hx; unfold Mk.fv at hx; simp only [List.mem_cons, List.not_mem_nil, or_false] at hx; rcases hx with rfl | rfl | rfl | rfl | rfl <;> exact ⟨by decide, by decide⟩)
 exact fn_ret (rs := [.tmp 0]) rfl hF hS (vs := [_]) ⟨rfl, trivial⟩ (zs' := [zr]) (hs' := []) (List.singleton_sublist.2 (by simp)) zQ ⟨zr, hzr, rfl, rfl⟩

set_option maxRecDepth 4000 in
set_option maxHeartbeats 2000000 in
theorem lives_ct (w : World) {fz1 : Nat × Nat} {bt1 : TypeId} (hg1 : w.heap[2]? = some (.cells (Sha.kc.map vw).toArray bt1 fz1)) : Ct Tryd.prog 19 [] w (fun r _ _ => r = .bool true) := by
 refine fn_enter Tryd.func19 rfl Tryd.ntmps19 (Nat.le_of_ble_eq_true rfl) fun a hF hS => ?_
 obtain ⟨rt, hrt⟩ : ∃ rt, rt = (Mk.rootE Mk.fv).1 := ⟨_, rfl⟩
 have hrl : rt.length = 16 := by rw [hrt, Mk.rootE_n Mk.fv_0]; exact Mk.rootD_16 _ _
 have hr0 : Mk.rootE Mk.fv = (rt, 0) := by rw [hrt, ← Mk.fv_r]
 obtain ⟨pc, hpc⟩ : ∃ p, p = Mk.shown Mk.fv 1 2 := ⟨_, rfl⟩
 have hpcE : Mk.provE Mk.fv [99] = (pc, 0) := by rw [hpc]; exact Mk.fv_c
 have hpc1 : pc.fst = 1 := by rw [hpc]; unfold Mk.shown; rfl
 have hpc2 : pc.lv.length = 1 := by rw [hpc]; unfold Mk.shown; rfl
 have hpc3 : pc.sd.length = 3 := by rw [hpc]; exact Mk.fv_s1
 obtain ⟨px, hpx⟩ : ∃ p, p = Mk.shown Mk.fv 2 4 := ⟨_, rfl⟩
 have hpxE : Mk.provE Mk.fv [101] = (px, 0) := by rw [hpx]; exact Mk.fv_e
 have hpx1 : px.fst = 2 := by rw [hpx]; unfold Mk.shown; rfl
 have hpx2 : px.lv.length = 2 := by rw [hpx]; unfold Mk.shown; rfl
 have hpx3 : px.sd.length = 2 := by rw [hpx]; exact Mk.fv_s2
 obtain ⟨py, hpy⟩ : ∃ p, p = Mk.shown Mk.fv 4 5 := ⟨_, rfl⟩
 have hpyE : Mk.provE Mk.fv [104] = (py, 0) := by rw [hpy]; exact Mk.fv_h
 have hpy1 : py.fst = 4 := by rw [hpy]; unfold Mk.shown; rfl
 have hpy2 : py.lv.length = 1 := by rw [hpy]; unfold Mk.shown; rfl
 have hpy3 : py.sd.length = 1 := by rw [hpy]; exact Mk.fv_s3
 obtain ⟨pz, hpz⟩ : ∃ p, p = Mk.shown Mk.fv 0 4 := ⟨_, rfl⟩
 have hpzE : Mk.rangE Mk.fv [99] [102] = (pz, 0) := by rw [hpz]; exact Mk.fv_g
 have hpz1 : pz.fst = 0 := by rw [hpz]; unfold Mk.shown; rfl
 have hpz2 : pz.lv.length = 4 := by rw [hpz]; unfold Mk.shown; rfl
 have hpz3 : pz.sd.length = 1 := by rw [hpz]; exact Mk.fv_s4
 have hk1 : Mk.chkE rt [99] pc = ([50], true, 0) := by rw [hrt, hpc]; exact Mk.fv_k1
 have hk2 : Mk.chkE rt [101] px = ([], false, 0) := by rw [hrt, hpx]; exact Mk.fv_k2
 have hk3 : Mk.chkE rt [100] px = ([51], true, 0) := by rw [hrt, hpx]; exact Mk.fv_k3
 have hk4 : Mk.chkE rt [99] px = ([], false, 17) := by rw [hrt, hpx]; exact Mk.fv_k4
 obtain ⟨L2, hL2⟩ : ∃ L : List Mk.Lf, L = [([99], [50]), ([100], [51])] := ⟨_, rfl⟩
 have hk5 : Mk.chkR rt [99] [102] pz = (L2, 0) := by rw [hrt, hpz, hL2]; exact Mk.fv_k5
 have hl2 : L2.length = 2 := by rw [hL2]; rfl
 have hg1a : (L2.getD (0 : Int).toNat kv0).1 = [99] := by rw [hL2]; rfl
 have hg2a : (L2.getD (1 : Int).toNat kv0).2 = [51] := by rw [hL2]; rfl
 have hrl2 : (Mk.rootE Mk.fv).1.length = 16 := by rw [← hrt]; exact hrl
 refine wp_seq_k ?_; intro K1 hK1
 refine reg hF hS (sq rfl (q_assign rfl) <|
   sq_end) ?_
 clear hF hS; intro a w hF hS
 refine hK1 _ _ ?_
 clear hK1
 refine wp_seq_k ?_; intro K2 hK2
 refine regl ?_
 refine wpl_ef hF hS rfl (ef_call fn55 rfl (fun w hS => five_ct w )) ?_
 clear hF hS; rintro v1 _ _ a w ⟨_, _, rfl, rfl, ⟨z2, hz3, rfl, rfl⟩⟩ hF hS
 replace hS : St _ [_] [] _ := hS
 refine wpl_sq hF hS (sq rfl (q_assign rfl) <|
   sq_end) ?_
 clear hF hS; intro a w hF hS
 refine wpList_nil ?_
 refine hK2 _ _ ?_
 clear hK2
 refine wp_seq_k ?_; intro K3 hK3
 refine regl ?_
 refine wpl_sq hF hS (sq rfl (q_move rfl) <|
   sq rfl (q_call fn12 rfl (fun w hS => mroot_ct _ _ w (Sl.mono (hS.le (.inr (by simp))) hz3) (hS.ext _ _ hg1)) (fun _ _ _ h => h)) <|
   sq rfl (q_move rfl) <|
   sq rfl (q_extract rfl rfl) <|
   sq rfl (q_extract rfl rfl) <|
   sq_end) ?_
 clear hF hS; intro a w hF hS
 refine wpl_ef hF hS rfl (ef_allocA ty29) ?_
 clear hF hS; rintro _ _ _ a w ⟨b4, rfl, rfl, rfl⟩ hF hS
 rw [show List.replicate 16 (Value.int .u8 0) = (List.replicate 16 (0 : UInt8)).map vb from by rw [List.map_replicate] <;> rfl] at hS
 refine wpl_ef hF hS rfl (ef_storeW ty29 0 rfl rfl rfl rfl bQ oQ bQ) ?_
 clear hF hS; rintro _ _ _ a w ⟨rfl, rfl, rfl⟩ hF hS
 replace hS : St _ [_] [_] _ := hS
 refine wpl_sq hF hS (sq rfl (q_assign rfl) <|
   sq_end) ?_
 clear hF hS; intro a w hF hS
 refine wpList_nil ?_
 rw [hr0] at hF hS; (try dsimp only at hF); (try dsimp only at hS)
 refine hK3 _ _ ?_
 clear hK3
 refine wp_seq_k ?_; intro K4 hK4
 refine regl ?_
 refine wpl_sq hF hS (sq rfl (q_move rfl) <|
   sq_end) ?_
 clear hF hS; intro a w hF hS
 refine wpl_ef hF hS rfl (ef_call fn22 rfl (fun w hS => prove_ct _ _ [99] w (Sl.mono (hS.le (.inr (by simp))) hz3) (hS.ext _ _ hg1))) ?_
 clear hF hS; rintro _ _ _ a w ⟨_, _, rfl, rfl, ⟨l6, s7, z8, rfl, hl9, hs10, rfl, rfl⟩⟩ hF hS
 rw [hpcE] at hF hl9 hs10; (try dsimp only at hF hl9 hs10)
 replace hS : St _ [_, _] [_] _ := hS
 refine wpl_sq hF hS (sq rfl (q_move rfl) <|
   sq rfl (q_extract rfl rfl) <|
   sq rfl (q_extract rfl rfl) <|
   sq_end) ?_
 clear hF hS; intro a w hF hS
 refine wpl_ef hF hS rfl (ef_allocA ty50) ?_
 clear hF hS; rintro _ _ _ a w ⟨b11, rfl, rfl, rfl⟩ hF hS
 refine wpl_ef hF hS rfl (ef_storeW ty50 0 rfl rfl rfl rfl bQ (oc_cons rfl (oc_cons rfl (oc_cons (sl_one' hl9) (oc_cons (sl_one' hs10) oc_nil)))) bQ) ?_
 clear hF hS; rintro _ _ _ a w ⟨rfl, rfl, rfl⟩ hF hS
 replace hS : St _ [_, _] [_, _] _ := hS
 refine wpl_sq hF hS (sq rfl (q_assign rfl) <|
   sq_end) ?_
 clear hF hS; intro a w hF hS
 refine wpList_nil ?_
 refine hK4 _ _ ?_
 clear hK4
 refine wp_seq_k ?_; intro K5 hK5
 refine regl ?_
 refine wpl_sq hF hS (sq rfl (q_move rfl) <|
   sq_end) ?_
 clear hF hS; intro a w hF hS
 refine wpl_ef hF hS rfl (ef_call fn22 rfl (fun w hS => prove_ct _ _ [101] w (Sl.mono (hS.le (.inr (by simp))) hz3) (hS.ext _ _ hg1))) ?_
 clear hF hS; rintro _ _ _ a w ⟨_, _, rfl, rfl, ⟨l13, s14, z15, rfl, hl16, hs17, rfl, rfl⟩⟩ hF hS
 rw [hpxE] at hF hl16 hs17; (try dsimp only at hF hl16 hs17)
 replace hS : St _ [_, _, _] [_, _] _ := hS
 refine wpl_sq hF hS (sq rfl (q_move rfl) <|
   sq rfl (q_extract rfl rfl) <|
   sq rfl (q_extract rfl rfl) <|
   sq_end) ?_
 clear hF hS; intro a w hF hS
 refine wpl_ef hF hS rfl (ef_allocA ty50) ?_
 clear hF hS; rintro _ _ _ a w ⟨b18, rfl, rfl, rfl⟩ hF hS
 refine wpl_ef hF hS rfl (ef_storeW ty50 0 rfl rfl rfl rfl bQ (oc_cons rfl (oc_cons rfl (oc_cons (sl_one' hl16) (oc_cons (sl_one' hs17) oc_nil)))) bQ) ?_
 clear hF hS; rintro _ _ _ a w ⟨rfl, rfl, rfl⟩ hF hS
 replace hS : St _ [_, _, _] [_, _, _] _ := hS
 refine wpl_sq hF hS (sq rfl (q_assign rfl) <|
   sq_end) ?_
 clear hF hS; intro a w hF hS
 refine wpList_nil ?_
 refine hK5 _ _ ?_
 clear hK5
 refine wp_seq_k ?_; intro K6 hK6
 refine regl ?_
 refine wpl_sq hF hS (sq rfl (q_move rfl) <|
   sq_end) ?_
 clear hF hS; intro a w hF hS
 refine wpl_ef hF hS rfl (ef_call fn22 rfl (fun w hS => prove_ct _ _ [104] w (Sl.mono (hS.le (.inr (by simp))) hz3) (hS.ext _ _ hg1))) ?_
 clear hF hS; rintro _ _ _ a w ⟨_, _, rfl, rfl, ⟨l20, s21, z22, rfl, hl23, hs24, rfl, rfl⟩⟩ hF hS
 rw [hpyE] at hF hl23 hs24; (try dsimp only at hF hl23 hs24)
 replace hS : St _ [_, _, _, _] [_, _, _] _ := hS
 refine wpl_sq hF hS (sq rfl (q_move rfl) <|
   sq rfl (q_extract rfl rfl) <|
   sq rfl (q_extract rfl rfl) <|
   sq_end) ?_
 clear hF hS; intro a w hF hS
 refine wpl_ef hF hS rfl (ef_allocA ty50) ?_
 clear hF hS; rintro _ _ _ a w ⟨b25, rfl, rfl, rfl⟩ hF hS
 refine wpl_ef hF hS rfl (ef_storeW ty50 0 rfl rfl rfl rfl bQ (oc_cons rfl (oc_cons rfl (oc_cons (sl_one' hl23) (oc_cons (sl_one' hs24) oc_nil)))) bQ) ?_
 clear hF hS; rintro _ _ _ a w ⟨rfl, rfl, rfl⟩ hF hS
 replace hS : St _ [_, _, _, _] [_, _, _, _] _ := hS
 refine wpl_sq hF hS (sq rfl (q_assign rfl) <|
   sq_end) ?_
 clear hF hS; intro a w hF hS
 refine wpList_nil ?_
 refine hK6 _ _ ?_
 clear hK6
 refine wp_seq_k ?_; intro K7 hK7
 refine regl ?_
 refine wpl_sq hF hS (sq rfl (q_move rfl) <|
   sq_end) ?_
 clear hF hS; intro a w hF hS
 refine wpl_ef hF hS rfl (ef_call fn24 rfl (fun w hS => range_ct _ _ [99] [102] w (Sl.mono (hS.le (.inr (by simp))) hz3) (hS.ext _ _ hg1))) ?_
 clear hF hS; rintro _ _ _ a w ⟨_, _, rfl, rfl, ⟨l27, s28, z29, rfl, hl30, hs31, rfl, rfl⟩⟩ hF hS
 rw [hpzE] at hF hl30 hs31; (try dsimp only at hF hl30 hs31)
 replace hS : St _ [_, _, _, _, _] [_, _, _, _] _ := hS
 refine wpl_sq hF hS (sq rfl (q_move rfl) <|
   sq rfl (q_extract rfl rfl) <|
   sq rfl (q_extract rfl rfl) <|
   sq_end) ?_
 clear hF hS; intro a w hF hS
 refine wpl_ef hF hS rfl (ef_allocA ty50) ?_
 clear hF hS; rintro _ _ _ a w ⟨b32, rfl, rfl, rfl⟩ hF hS
 refine wpl_ef hF hS rfl (ef_storeW ty50 0 rfl rfl rfl rfl bQ (oc_cons rfl (oc_cons rfl (oc_cons (sl_one' hl30) (oc_cons (sl_one' hs31) oc_nil)))) bQ) ?_
 clear hF hS; rintro _ _ _ a w ⟨rfl, rfl, rfl⟩ hF hS
 replace hS : St _ [_, _, _, _, _] [_, _, _, _, _] _ := hS
 refine wpl_sq hF hS (sq rfl (q_assign rfl) <|
   sq_end) ?_
 clear hF hS; intro a w hF hS
 refine wpList_nil ?_
 refine hK7 _ _ ?_
 clear hK7
 refine wp_seq_k ?_; intro K8 hK8
 refine wp_seq_k ?_; intro K9 hK9
 refine regl ?_
 refine wpl_sq hF hS (sq rfl (q_move rfl) <|
   sq rfl (q_nei rfl rfl) <|
   sq rfl (q_move rfl) <|
   sq_end) ?_
 clear hF hS; intro a w hF hS
 refine wpl_or 2 54 2 hF hS rfl rfl rfl rfl rfl (fun hg => have hg := (nd_false hg); sq_go 54 rfl rfl rfl (q_move rfl) <|
   sq_go 54 rfl rfl rfl (q_nei rfl rfl) <|
   sq_end) rfl rfl ?_
 clear hF hS; intro a w hF hS
 refine wpl_sq hF hS (sq rfl (q_move rfl) <|
   sq_end) ?_
 clear hF hS; intro a w hF hS
 refine wpl_or 6 58 2 hF hS rfl rfl rfl rfl rfl (fun hg => have hg := hg; sq_go 58 rfl rfl rfl (q_move rfl) <|
   sq_go 58 rfl rfl rfl (q_nei rfl rfl) <|
   sq_end) rfl rfl ?_
 clear hF hS; intro a w hF hS
 refine wpl_sq hF hS (sq rfl (q_move rfl) <|
   sq_end) ?_
 clear hF hS; intro a w hF hS
 refine wpl_or 10 62 2 hF hS rfl rfl rfl rfl rfl (fun hg => have hg := hg; sq_go 62 rfl rfl rfl (q_move rfl) <|
   sq_go 62 rfl rfl rfl (q_nei rfl rfl) <|
   sq_end) rfl rfl ?_
 clear hF hS; intro a w hF hS
 refine wpl_sq hF hS (sq rfl (q_move rfl) <|
   sq_end) ?_
 clear hF hS; intro a w hF hS
 refine wpl_or 14 66 2 hF hS rfl rfl rfl rfl rfl (fun hg => have hg := hg; sq_go 66 rfl rfl rfl (q_move rfl) <|
   sq_go 66 rfl rfl rfl (q_nei rfl rfl) <|
   sq_end) rfl rfl ?_
 clear hF hS; intro a w hF hS
 refine wpList_nil ?_
 refine hK9 _ _ ?_
 clear hK9
 refine wp_if hF rfl (fun hc1 => ?_) (fun hc1 => ?_)
 ·(try simp only [Bool.or_eq_true, Bool.and_eq_true, Bool.or_eq_false_iff, Bool.and_eq_false_iff, decide_eq_true_eq, decide_eq_false_iff_not, Bool.not_eq_true', Bool.not_eq_false'] at hc1)
  simp at hc1
 ·(try simp only [Bool.or_eq_true, Bool.and_eq_true, Bool.or_eq_false_iff, Bool.and_eq_false_iff, decide_eq_true_eq, decide_eq_false_iff_not, Bool.not_eq_true', Bool.not_eq_false'] at hc1)
  refine wp_skip ?_
  refine hK8 _ _ ?_
  clear hK8
  refine wp_seq_k ?_; intro K10 hK10
  refine wp_seq_k ?_; intro K11 hK11
  refine regl ?_
  refine wpl_sq hF hS (sq rfl (q_fieldAddr ty50 rfl rfl (s' := 0) kQ) <|
    sq rfl (q_ld_blk1 ty3 3 rfl rfl rfl rfl) <|
    sq rfl (q_nei rfl rfl) <|
    sq rfl (q_move rfl) <|
    sq_end) ?_
  clear hF hS; intro a w hF hS
  refine wpl_or 3 73 4 hF hS rfl rfl rfl rfl rfl (fun hg => have hg := (nd_false hg); sq_go 73 rfl rfl rfl (q_fieldAddr ty50 rfl rfl (s' := 0) kQ) <|
    sq_go 73 rfl rfl rfl (q_ld_blk1 ty33 3 rfl rfl rfl rfl) <|
    sq_go 73 rfl rfl rfl (q_len_sl ty33 hl9 rfl) <|
    sq_go 73 rfl rfl rfl (q_nei rfl rfl) <|
    sq_end) rfl rfl ?_
  clear hF hS; intro a w hF hS
  refine wpl_sq hF hS (sq rfl (q_move rfl) <|
    sq_end) ?_
  clear hF hS; intro a w hF hS
  refine wpl_or 9 79 4 hF hS rfl rfl rfl rfl rfl (fun hg => have hg := hg; sq_go 79 rfl rfl rfl (q_fieldAddr ty50 rfl rfl (s' := 0) kQ) <|
    sq_go 79 rfl rfl rfl (q_ld_blk1 ty48 3 rfl rfl rfl rfl) <|
    sq_go 79 rfl rfl rfl (q_len_sl ty48 hs10 rfl) <|
    sq_go 79 rfl rfl rfl (q_nei rfl rfl) <|
    sq_end) rfl rfl ?_
  clear hF hS; intro a w hF hS
  refine wpl_sq hF hS (sq rfl (q_move rfl) <|
    sq_end) ?_
  clear hF hS; intro a w hF hS
  refine wpl_or 15 85 3 hF hS rfl rfl rfl rfl rfl (fun hg => have hg := hg; sq_go 85 rfl rfl rfl (q_fieldAddr ty50 rfl rfl (s' := 0) kQ) <|
    sq_go 85 rfl rfl rfl (q_ld_blk1 ty3 2 rfl rfl rfl rfl) <|
    sq_go 85 rfl rfl rfl (q_nei rfl rfl) <|
    sq_end) rfl rfl ?_
  clear hF hS; intro a w hF hS
  refine wpl_sq hF hS (sq rfl (q_move rfl) <|
    sq_end) ?_
  clear hF hS; intro a w hF hS
  refine wpl_or 20 90 4 hF hS rfl rfl rfl rfl rfl (fun hg => have hg := hg; sq_go 90 rfl rfl rfl (q_fieldAddr ty50 rfl rfl (s' := 0) kQ) <|
    sq_go 90 rfl rfl rfl (q_ld_blk1 ty33 2 rfl rfl rfl rfl) <|
    sq_go 90 rfl rfl rfl (q_len_sl ty33 hl16 rfl) <|
    sq_go 90 rfl rfl rfl (q_nei rfl rfl) <|
    sq_end) rfl rfl ?_
  clear hF hS; intro a w hF hS
  refine wpl_sq hF hS (sq rfl (q_move rfl) <|
    sq_end) ?_
  clear hF hS; intro a w hF hS
  refine wpl_or 26 96 4 hF hS rfl rfl rfl rfl rfl (fun hg => have hg := hg; sq_go 96 rfl rfl rfl (q_fieldAddr ty50 rfl rfl (s' := 0) kQ) <|
    sq_go 96 rfl rfl rfl (q_ld_blk1 ty48 2 rfl rfl rfl rfl) <|
    sq_go 96 rfl rfl rfl (q_len_sl ty48 hs17 rfl) <|
    sq_go 96 rfl rfl rfl (q_nei rfl rfl) <|
    sq_end) rfl rfl ?_
  clear hF hS; intro a w hF hS
  refine wpl_sq hF hS (sq rfl (q_move rfl) <|
    sq_end) ?_
  clear hF hS; intro a w hF hS
  refine wpl_or 32 102 3 hF hS rfl rfl rfl rfl rfl (fun hg => have hg := hg; sq_go 102 rfl rfl rfl (q_fieldAddr ty50 rfl rfl (s' := 0) kQ) <|
    sq_go 102 rfl rfl rfl (q_ld_blk1 ty3 1 rfl rfl rfl rfl) <|
    sq_go 102 rfl rfl rfl (q_nei rfl rfl) <|
    sq_end) rfl rfl ?_
  clear hF hS; intro a w hF hS
  refine wpl_sq hF hS (sq rfl (q_move rfl) <|
    sq_end) ?_
  clear hF hS; intro a w hF hS
  refine wpl_or 37 107 4 hF hS rfl rfl rfl rfl rfl (fun hg => have hg := hg; sq_go 107 rfl rfl rfl (q_fieldAddr ty50 rfl rfl (s' := 0) kQ) <|
    sq_go 107 rfl rfl rfl (q_ld_blk1 ty48 1 rfl rfl rfl rfl) <|
    sq_go 107 rfl rfl rfl (q_len_sl ty48 hs24 rfl) <|
    sq_go 107 rfl rfl rfl (q_nei rfl rfl) <|
    sq_end) rfl rfl ?_
  clear hF hS; intro a w hF hS
  refine wpl_sq hF hS (sq rfl (q_move rfl) <|
    sq_end) ?_
  clear hF hS; intro a w hF hS
  refine wpl_or 43 113 3 hF hS rfl rfl rfl rfl rfl (fun hg => have hg := hg; sq_go 113 rfl rfl rfl (q_fieldAddr ty50 rfl rfl (s' := 0) kQ) <|
    sq_go 113 rfl rfl rfl (q_ld_blk1 ty3 0 rfl rfl rfl rfl) <|
    sq_go 113 rfl rfl rfl (q_nei rfl rfl) <|
    sq_end) rfl rfl ?_
  clear hF hS; intro a w hF hS
  refine wpl_sq hF hS (sq rfl (q_move rfl) <|
    sq_end) ?_
  clear hF hS; intro a w hF hS
  refine wpl_or 48 118 4 hF hS rfl rfl rfl rfl rfl (fun hg => have hg := hg; sq_go 118 rfl rfl rfl (q_fieldAddr ty50 rfl rfl (s' := 0) kQ) <|
    sq_go 118 rfl rfl rfl (q_ld_blk1 ty33 0 rfl rfl rfl rfl) <|
    sq_go 118 rfl rfl rfl (q_len_sl ty33 hl30 rfl) <|
    sq_go 118 rfl rfl rfl (q_nei rfl rfl) <|
    sq_end) rfl rfl ?_
  clear hF hS; intro a w hF hS
  refine wpl_sq hF hS (sq rfl (q_move rfl) <|
    sq_end) ?_
  clear hF hS; intro a w hF hS
  refine wpl_or 54 124 4 hF hS rfl rfl rfl rfl rfl (fun hg => have hg := hg; sq_go 124 rfl rfl rfl (q_fieldAddr ty50 rfl rfl (s' := 0) kQ) <|
    sq_go 124 rfl rfl rfl (q_ld_blk1 ty48 0 rfl rfl rfl rfl) <|
    sq_go 124 rfl rfl rfl (q_len_sl ty48 hs31 rfl) <|
    sq_go 124 rfl rfl rfl (q_nei rfl rfl) <|
    sq_end) rfl rfl ?_
  clear hF hS; intro a w hF hS
  refine wpList_nil ?_
  refine hK11 _ _ ?_
  clear hK11
  refine wp_if hF rfl (fun hc2 => ?_) (fun hc2 => ?_)
  ·(try simp only [Bool.or_eq_true, Bool.and_eq_true, Bool.or_eq_false_iff, Bool.and_eq_false_iff, decide_eq_true_eq, decide_eq_false_iff_not, Bool.not_eq_true', Bool.not_eq_false'] at hc2)
   omega
  ·(try simp only [Bool.or_eq_true, Bool.and_eq_true, Bool.or_eq_false_iff, Bool.and_eq_false_iff, decide_eq_true_eq, decide_eq_false_iff_not, Bool.not_eq_true', Bool.not_eq_false'] at hc2)
   refine wp_skip ?_
   refine hK10 _ _ ?_
   clear hK10
   refine wp_seq_k ?_; intro K12 hK12
   refine reg hF hS (sq rfl (q_ld_blkW ty29 4 rfl rfl bQ rfl) <|
     sq rfl (q_ld_blkW ty50 3 rfl rfl bQ rfl) <|
     sq rfl (q_call fn29 rfl (fun w hS => check_ct pc _ _ rt [99] (by first | with_reducible assumption | omega) w (Sl.mono (hS.le (.inr (by simp))) hl9) (Sl.mono (hS.le (.inr (by simp))) hs10) (hS.ext _ _ hg1)) (fun _ _ _ h => h)) <|
     sq rfl (q_move rfl) <|
     sq rfl (q_extract rfl rfl) <|
     sq rfl (q_extract rfl rfl) <|
     sq rfl (q_extract rfl rfl) <|
     sq rfl (q_assign rfl) <|
     sq rfl (q_assign rfl) <|
     sq rfl (q_assign rfl) <|
     sq_end) ?_
   clear hF hS; intro a w hF hS
   rw [hk1] at hF; (try dsimp only at hF)
   refine hK12 _ _ ?_
   clear hK12
   refine wp_seq_k ?_; intro K13 hK13
   refine reg hF hS (sq rfl (q_ld_blkW ty29 4 rfl rfl bQ rfl) <|
     sq rfl (q_ld_blkW ty50 2 rfl rfl bQ rfl) <|
     sq rfl (q_call fn29 rfl (fun w hS => check_ct px _ _ rt [101] (by first | with_reducible assumption | omega) w (Sl.mono (hS.le (.inr (by simp))) hl16) (Sl.mono (hS.le (.inr (by simp))) hs17) (hS.ext _ _ hg1)) (fun _ _ _ h => h)) <|
     sq rfl (q_move rfl) <|
     sq rfl (q_extract rfl rfl) <|
     sq rfl (q_extract rfl rfl) <|
     sq rfl (q_extract rfl rfl) <|
     sq rfl (q_assign rfl) <|
     sq rfl (q_assign rfl) <|
     sq rfl (q_assign rfl) <|
     sq_end) ?_
   clear hF hS; intro a w hF hS
   rw [hk2] at hF; (try dsimp only at hF)
   refine hK13 _ _ ?_
   clear hK13
   refine wp_seq_k ?_; intro K14 hK14
   refine reg hF hS (sq rfl (q_ld_blkW ty29 4 rfl rfl bQ rfl) <|
     sq rfl (q_ld_blkW ty50 2 rfl rfl bQ rfl) <|
     sq rfl (q_call fn29 rfl (fun w hS => check_ct px _ _ rt [100] (by first | with_reducible assumption | omega) w (Sl.mono (hS.le (.inr (by simp))) hl16) (Sl.mono (hS.le (.inr (by simp))) hs17) (hS.ext _ _ hg1)) (fun _ _ _ h => h)) <|
     sq rfl (q_move rfl) <|
     sq rfl (q_extract rfl rfl) <|
     sq rfl (q_extract rfl rfl) <|
     sq rfl (q_extract rfl rfl) <|
     sq rfl (q_assign rfl) <|
     sq rfl (q_assign rfl) <|
     sq rfl (q_assign rfl) <|
     sq_end) ?_
   clear hF hS; intro a w hF hS
   rw [hk3] at hF; (try dsimp only at hF)
   refine hK14 _ _ ?_
   clear hK14
   refine wp_seq_k ?_; intro K15 hK15
   refine reg hF hS (sq rfl (q_ld_blkW ty29 4 rfl rfl bQ rfl) <|
     sq rfl (q_ld_blkW ty50 2 rfl rfl bQ rfl) <|
     sq rfl (q_call fn29 rfl (fun w hS => check_ct px _ _ rt [99] (by first | with_reducible assumption | omega) w (Sl.mono (hS.le (.inr (by simp))) hl16) (Sl.mono (hS.le (.inr (by simp))) hs17) (hS.ext _ _ hg1)) (fun _ _ _ h => h)) <|
     sq rfl (q_move rfl) <|
     sq rfl (q_extract rfl rfl) <|
     sq rfl (q_extract rfl rfl) <|
     sq rfl (q_extract rfl rfl) <|
     sq rfl (q_assign rfl) <|
     sq rfl (q_assign rfl) <|
     sq rfl (q_assign rfl) <|
     sq_end) ?_
   clear hF hS; intro a w hF hS
   rw [hk4] at hF; (try dsimp only at hF)
   refine hK15 _ _ ?_
   clear hK15
   refine wp_seq_k ?_; intro K16 hK16
   refine regl ?_
   refine wpl_sq hF hS (sq rfl (q_ld_blkW ty29 4 rfl rfl bQ rfl) <|
     sq rfl (q_ld_blkW ty50 0 rfl rfl bQ rfl) <|
     sq_end) ?_
   clear hF hS; intro a w hF hS
   refine wpl_ef hF hS rfl (ef_call fn32 rfl (fun w hS => chkr_ct pz _ _ rt [99] [102] (by first | with_reducible assumption | omega) w (Sl.mono (hS.le (.inr (by simp))) hl30) (Sl.mono (hS.le (.inr (by simp))) hs31) (hS.ext _ _ hg1))) ?_
   clear hF hS; rintro _ _ _ a w ⟨_, _, rfl, rfl, ⟨v34, z35, hz36, rfl, rfl, rfl⟩⟩ hF hS
   rw [hk5] at hF hz36; (try dsimp only at hF hz36)
   replace hS : St _ [_, _, _, _, _, _] [_, _, _, _, _] _ := hS
   refine wpl_sq hF hS (sq rfl (q_move rfl) <|
     sq rfl (q_extract rfl rfl) <|
     sq rfl (q_extract rfl rfl) <|
     sq rfl (q_assign rfl) <|
     sq rfl (q_assign rfl) <|
     sq_end) ?_
   clear hF hS; intro a w hF hS
   refine wpList_nil ?_
   refine hK16 _ _ ?_
   clear hK16
   refine wp_seq_k ?_; intro K17 hK17
   refine regl ?_
   refine wpl_sq hF hS (sq rfl (q_move rfl) <|
     sq rfl (q_eqs (q := [50]) rfl rfl) <|
     sq rfl (q_move rfl) <|
     sq_end) ?_
   clear hF hS; intro a w hF hS
   refine wpl_and 2 166 1 hF hS rfl rfl rfl rfl rfl (fun hg => have hg := (by first | exact of_decide_eq_true hg | exact hg); sq_go 166 rfl rfl rfl (q_move rfl) <|
     sq_end) rfl rfl ?_
   clear hF hS; intro a w hF hS
   refine wpl_sq hF hS (sq rfl (q_move rfl) <|
     sq_end) ?_
   clear hF hS; intro a w hF hS
   refine wpl_and 5 169 2 hF hS rfl rfl rfl rfl rfl (fun hg => have hg := hg; sq_go 169 rfl rfl rfl (q_move rfl) <|
     sq_go 169 rfl rfl rfl (q_eqi rfl rfl) <|
     sq_end) rfl rfl ?_
   clear hF hS; intro a w hF hS
   refine wpl_sq hF hS (sq rfl (q_move rfl) <|
     sq_end) ?_
   clear hF hS; intro a w hF hS
   refine wpl_and 9 173 2 hF hS rfl rfl rfl rfl rfl (fun hg => have hg := hg; sq_go 173 rfl rfl rfl (q_move rfl) <|
     sq_go 173 rfl rfl rfl (q_not rfl) <|
     sq_end) rfl rfl ?_
   clear hF hS; intro a w hF hS
   refine wpl_sq hF hS (sq rfl (q_move rfl) <|
     sq_end) ?_
   clear hF hS; intro a w hF hS
   refine wpl_and 13 177 2 hF hS rfl rfl rfl rfl rfl (fun hg => have hg := hg; sq_go 177 rfl rfl rfl (q_move rfl) <|
     sq_go 177 rfl rfl rfl (q_eqi rfl rfl) <|
     sq_end) rfl rfl ?_
   clear hF hS; intro a w hF hS
   refine wpl_sq hF hS (sq rfl (q_move rfl) <|
     sq_end) ?_
   clear hF hS; intro a w hF hS
   refine wpl_and 17 181 2 hF hS rfl rfl rfl rfl rfl (fun hg => have hg := hg; sq_go 181 rfl rfl rfl (q_move rfl) <|
     sq_go 181 rfl rfl rfl (q_eqs (q := [51]) rfl rfl) <|
     sq_end) rfl rfl ?_
   clear hF hS; intro a w hF hS
   refine wpl_sq hF hS (sq rfl (q_move rfl) <|
     sq_end) ?_
   clear hF hS; intro a w hF hS
   refine wpl_and 21 185 1 hF hS rfl rfl rfl rfl rfl (fun hg => have hg := hg; sq_go 185 rfl rfl rfl (q_move rfl) <|
     sq_end) rfl rfl ?_
   clear hF hS; intro a w hF hS
   refine wpl_sq hF hS (sq rfl (q_move rfl) <|
     sq_end) ?_
   clear hF hS; intro a w hF hS
   refine wpl_and 24 188 2 hF hS rfl rfl rfl rfl rfl (fun hg => have hg := hg; sq_go 188 rfl rfl rfl (q_move rfl) <|
     sq_go 188 rfl rfl rfl (q_eqi rfl rfl) <|
     sq_end) rfl rfl ?_
   clear hF hS; intro a w hF hS
   refine wpl_sq hF hS (sq rfl (q_move rfl) <|
     sq_end) ?_
   clear hF hS; intro a w hF hS
   refine wpl_and 28 192 2 hF hS rfl rfl rfl rfl rfl (fun hg => have hg := hg; sq_go 192 rfl rfl rfl (q_move rfl) <|
     sq_go 192 rfl rfl rfl (q_eqi rfl rfl) <|
     sq_end) rfl rfl ?_
   clear hF hS; intro a w hF hS
   refine wpl_sq hF hS (sq rfl (q_move rfl) <|
     sq_end) ?_
   clear hF hS; intro a w hF hS
   refine wpl_and 32 196 2 hF hS rfl rfl rfl rfl rfl (fun hg => have hg := hg; sq_go 196 rfl rfl rfl (q_move rfl) <|
     sq_go 196 rfl rfl rfl (q_eqi rfl rfl) <|
     sq_end) rfl rfl ?_
   clear hF hS; intro a w hF hS
   refine wpl_sq hF hS (sq rfl (q_move rfl) <|
     sq_end) ?_
   clear hF hS; intro a w hF hS
   refine wpl_and 36 200 3 hF hS rfl rfl rfl rfl rfl (fun hg => have hg := hg; sq_go 200 rfl rfl rfl (q_move rfl) <|
     sq_go 200 rfl rfl rfl (q_len_sl ty33 hz36 rfl) <|
     sq_go 200 rfl rfl rfl (q_eqi rfl rfl) <|
     sq_end) rfl rfl ?_
   clear hF hS; intro a w hF hS
   refine wpl_sq hF hS (sq rfl (q_move rfl) <|
     sq_end) ?_
   clear hF hS; intro a w hF hS
   refine wpl_and 41 205 5 hF hS rfl rfl rfl rfl rfl (fun hg => have hg := hg; sq_go 205 rfl rfl rfl (q_move rfl) <|
     sq_go 205 rfl rfl rfl (q_idx_sl ty33 ty41 hz36 rfl rfl (by omega)) <|
     sq_go 205 rfl rfl rfl (q_fld_F ty41 hz36 rfl (by omega) rfl (s' := 0) kQ) <|
     sq_go 205 rfl rfl rfl (q_ld_FK ty9 hz36 (.inr (by simp)) rfl rfl (by omega)) <|
     sq_go 205 rfl rfl rfl (q_eqs (q := [99]) rfl rfl) <|
     sq_end) rfl rfl ?_
   clear hF hS; intro a w hF hS
   refine wpl_sq hF hS (sq rfl (q_move rfl) <|
     sq_end) ?_
   clear hF hS; intro a w hF hS
   refine wpl_and 48 212 5 hF hS rfl rfl rfl rfl rfl (fun hg => have hg := hg; sq_go 212 rfl rfl rfl (q_move rfl) <|
     sq_go 212 rfl rfl rfl (q_idx_sl ty33 ty41 hz36 rfl rfl (by omega)) <|
     sq_go 212 rfl rfl rfl (q_fld_F ty41 hz36 rfl (by omega) rfl (s' := 0) kQ) <|
     sq_go 212 rfl rfl rfl (q_ld_FV ty9 hz36 (.inr (by simp)) rfl rfl (by omega)) <|
     sq_go 212 rfl rfl rfl (q_eqs (q := [51]) rfl rfl) <|
     sq_end) rfl rfl ?_
   clear hF hS; intro a w hF hS
   refine wpl_sq hF hS (sq rfl (q_assign rfl) <|
     sq_end) ?_
   clear hF hS; intro a w hF hS
   refine wpList_nil ?_
   refine hK17 _ _ ?_
   clear hK17
   refine wp_ret ?_
   exact fn_ret (rs := [.tmp 0]) rfl hF hS (vs := [_]) ⟨rfl, trivial⟩ zQ zQ (by rw [hg1a, hg2a]; simp [hl2])
end Go.Proofs.YtdojfnigffeblaaDoor
