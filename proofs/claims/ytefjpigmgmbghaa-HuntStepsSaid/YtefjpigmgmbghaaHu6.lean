/- A text of a proof over this seat: walks over the program's functions and the plain laws that they need. -/
import Derived.Test.YtefjpigmgmbghaaHu5
import Derived.Test.YtefjpigmgmbghaaHpA
import Derived.Test.YtefjpigmgmbghaaFwD
import Derived.Test.YtefjpigmgmbghaaFwB
set_option linter.all false
namespace Go.Proofs.Ytefjpigmgmbghaa
open Go.Fw
theorem ty97 : Tf Try.prog 97 (.int .u64) 1 8 (Value.int .u64 0) := ⟨Try.underlying97, by kernel_rfl⟩
theorem ty98 : Tf Try.prog 98 (.func #[3] #[3] false) 1 8 (Value.nilFunc) := ⟨Try.underlying98, by kernel_rfl⟩
theorem fn61 : FnOk Try.prog 61 := ⟨_, Try.func61, rfl, by kernel_rfl⟩
theorem fn62 : FnOk Try.prog 62 := ⟨_, Try.func62, rfl, by kernel_rfl⟩

set_option maxRecDepth 4000 in
set_option maxHeartbeats 2000000 in
theorem ones_ct (x : UInt64) (w : World) : Ct Try.prog 62 [vq x] w (fun r _ _ => r = vi (Hu.ocv x)) := by
 refine fn_enter Try.func62 rfl Try.ntmps62 (Nat.le_of_ble_eq_true rfl) fun a hF hS => ?_
 refine wp_seq_k ?_; intro K1 hK1
 refine reg hF hS (sq rfl (q_assign rfl) <|
   sq_end) ?_
 clear hF hS; intro a w hF hS
 refine hK1 _ _ ?_
 clear hK1
 refine wp_seq_k ?_; intro K2 hK2
 refine reg hF hS (sq rfl (q_move rfl) <|
   sq rfl (q_shrq rfl rfl (by omega)) <|
   sq rfl (q_andq (q := 6148914691236517205) rfl rfl) <|
   sq rfl (q_move rfl) <|
   sq rfl (q_andq (q := 6148914691236517205) rfl rfl) <|
   sq rfl (q_addq rfl rfl) <|
   sq rfl (q_assign rfl) <|
   sq_end) ?_
 clear hF hS; intro a w hF hS
 refine hK2 _ _ ?_
 clear hK2
 refine wp_seq_k ?_; intro K3 hK3
 refine reg hF hS (sq rfl (q_move rfl) <|
   sq rfl (q_shrq rfl rfl (by omega)) <|
   sq rfl (q_andq (q := 3689348814741910323) rfl rfl) <|
   sq rfl (q_move rfl) <|
   sq rfl (q_andq (q := 3689348814741910323) rfl rfl) <|
   sq rfl (q_addq rfl rfl) <|
   sq rfl (q_assign rfl) <|
   sq_end) ?_
 clear hF hS; intro a w hF hS
 refine hK3 _ _ ?_
 clear hK3
 refine wp_seq_k ?_; intro K4 hK4
 refine reg hF hS (sq rfl (q_move rfl) <|
   sq rfl (q_shrq rfl rfl (by omega)) <|
   sq rfl (q_move rfl) <|
   sq rfl (q_addq rfl rfl) <|
   sq rfl (q_andq (q := 1085102592571150095) rfl rfl) <|
   sq rfl (q_assign rfl) <|
   sq_end) ?_
 clear hF hS; intro a w hF hS
 refine hK4 _ _ ?_
 clear hK4
 refine wp_seq_k ?_; intro K5 hK5
 refine reg hF hS (sq rfl (q_move rfl) <|
   sq rfl (q_move rfl) <|
   sq rfl (q_shrq rfl rfl (by omega)) <|
   sq rfl (q_addq rfl rfl) <|
   sq rfl (q_assign rfl) <|
   sq_end) ?_
 clear hF hS; intro a w hF hS
 refine hK5 _ _ ?_
 clear hK5
 refine wp_seq_k ?_; intro K6 hK6
 refine reg hF hS (sq rfl (q_move rfl) <|
   sq rfl (q_move rfl) <|
   sq rfl (q_shrq rfl rfl (by omega)) <|
   sq rfl (q_addq rfl rfl) <|
   sq rfl (q_assign rfl) <|
   sq_end) ?_
 clear hF hS; intro a w hF hS
 refine hK6 _ _ ?_
 clear hK6
 refine wp_seq_k ?_; intro K7 hK7
 refine reg hF hS (sq rfl (q_move rfl) <|
   sq rfl (q_move rfl) <|
   sq rfl (q_shrq rfl rfl (by omega)) <|
   sq rfl (q_addq rfl rfl) <|
   sq rfl (q_assign rfl) <|
   sq_end) ?_
 clear hF hS; intro a w hF hS
 refine hK7 _ _ ?_
 clear hK7
 refine wp_seq_k ?_; intro K8 hK8
 refine reg hF hS (sq rfl (q_move rfl) <|
   sq rfl (q_cv_qi ty97 ty3 rfl) <|
   sq rfl (q_andi rfl rfl) <|
   sq rfl (q_assign rfl) <|
   sq_end) ?_
 clear hF hS; intro a w hF hS
 refine hK8 _ _ ?_
 clear hK8
 refine wp_ret ?_
 exact fn_ret (rs := [.tmp 2]) rfl hF hS (vs := [_]) ⟨rfl, trivial⟩ zQ zQ (by unfold Hu.ocv Hu.o4 Hu.o3 Hu.o2 Hu.o1 Hu.shr; rfl)

set_option maxRecDepth 4000 in
set_option maxHeartbeats 2000000 in
theorem size1_ct (i : Int) (e1 : Nat) (xN xS xB : Value) (xs : List Int) (xb : List Bool) (hi : 0 ≤ i ∧ i < xs.length) (w : World) (hb1 : w.heap[e1]? = some (.cells [xN, xS, xB].toArray 42 (0, 0))) (hxn : xN.oneCell' = true) (hxs : Sl encI (ph w) xS xs) (hxb : Sl encT (ph w) xB xb) : Ct Try.prog 61 [vi i, .pointer (some ⟨e1, 0, none⟩)] w (fun r _ _ => r = vi (Hu.szF (xs.getD i.toNat 0))) := by
 refine fn_enter Try.func61 rfl Try.ntmps61 (Nat.le_of_ble_eq_true rfl) fun a hF hS => ?_
 have hsl := hxs.1
 refine wp_seq_k ?_; intro K1 hK1
 refine reg hF hS (sq rfl (q_assign rfl) <|
   sq_end) ?_
 clear hF hS; intro a w hF hS
 refine hK1 _ _ ?_
 clear hK1
 refine wp_seq_k ?_; intro K2 hK2
 refine reg hF hS (sq rfl (q_fieldAddr ty42 rfl rfl (s' := 0) kQ) <|
   sq rfl (q_ld_old1 ty22 rfl hb1 rfl rfl) <|
   sq rfl (q_move rfl) <|
   sq rfl (q_idx_sl ty22 ty3 hxs rfl rfl (by omega)) <|
   sq rfl (q_ld_I ty3 hxs zin0 rfl rfl (by omega)) <|
   sq rfl (q_cv_iq ty3 ty97 rfl) <|
   sq rfl (q_call fn62 rfl (fun w hS => ones_ct _ w ) (fun _ _ _ h => h)) <|
   sq rfl (q_assign rfl) <|
   sq_end) ?_
 clear hF hS; intro a w hF hS
 refine hK2 _ _ ?_
 clear hK2
 refine wp_ret ?_
 exact fn_ret (rs := [.tmp 3]) rfl hF hS (vs := [_]) ⟨rfl, trivial⟩ zQ zQ (rfl)

set_option maxRecDepth 4000 in
set_option maxHeartbeats 2000000 in
theorem next_ct (xN xS xB : Value) (xs : List Int) (xb : List Bool) (kV mV : Value) (ks : List (List UInt8)) (ms : List Int) (hl : xs.length < 1048576) (w : World) (hxn : xN.oneCell' = true) (hxs : Sl encI (ph w) xS xs) (hxb : Sl encT (ph w) xB xb) (hk : Sl (encA 16) (ph w) kV ks) (hm : Sl encI (ph w) mV ms) : Ct Try.prog 28 [.agg [xN, xS, xB].toArray, .agg [kV, mV].toArray] w (fun r _ _ => r = .tuple #[vi (Hu.nxS xs xb ks ms), .bool (Hu.nxO xs xb ks ms), vi (Hu.kE xs xb ks ms)]) := by
 refine fn_enterM Try.func28 rfl Try.ntmps28 (Nat.le_of_ble_eq_true rfl) fun a hF hS => ?_
 have hsl := hxs.1
 have htl := hxb.1
 have hml := hm.1
 have hkl := hk.1
 refine wp_seq_k ?_; intro K1 hK1
 refine regl ?_
 refine wpl_ef hF hS rfl (ef_boxA rfl) ?_
 clear hF hS; rintro _ _ _ a w ⟨b1, rfl, rfl, rfl⟩ hF hS
 refine wpl_ef hF hS rfl (ef_boxA rfl) ?_
 clear hF hS; rintro _ _ _ a w ⟨b2, rfl, rfl, rfl⟩ hF hS
 refine wpl_sq hF hS (sq rfl (q_assign rfl) <|
   sq rfl (q_assign rfl) <|
   sq rfl (q_assign rfl) <|
   sq_end) ?_
 clear hF hS; intro a w hF hS
 refine wpList_nil ?_
 refine hK1 _ _ ?_
 clear hK1
 refine wp_seq_k ?_; intro K2 hK2
 refine wp_seq_k ?_; intro K3 hK3
 refine reg hF hS (sq rfl (q_ld_blkW ty42 1 rfl rfl bQ rfl) <|
   sq rfl (q_ld_blkW ty38 0 rfl rfl bQ rfl) <|
   sq rfl (q_call fn54 rfl (fun w hS => fits_ct _ _ _ _ _ _ _ _ _ w hxn (Sl.mono (hS.le zin0) hxs) (Sl.mono (hS.le zin0) hxb) (Sl.mono (hS.le zin0) hk) (Sl.mono (hS.le zin0) hm)) (fun _ _ _ h => h)) <|
   sq rfl (q_not rfl) <|
   sq_end) ?_
 clear hF hS; intro a w hF hS
 refine hK3 _ _ ?_
 clear hK3
 refine wp_if hF rfl (fun hc1 => ?_) (fun hc1 => ?_)
 ·have hft : Hu.fitB xs xb ks ms = false := by simpa using hc1
  refine wp_seq_k ?_; intro K4 hK4
  refine reg hF hS (sq rfl (q_assign rfl) <|
    sq rfl (q_assign rfl) <|
    sq rfl (q_assign rfl) <|
    sq_end) ?_
  clear hF hS; intro a w hF hS
  refine hK4 _ _ ?_
  clear hK4
  refine wp_ret ?_
  exact fn_retM (rs := [.tmp 4, .tmp 5, .tmp 6]) rfl hF hS (vs := [_, _, _]) ⟨rfl, rfl, rfl, trivial⟩ zQ zQ (Hu.nxT hft)
 ·have hft : Hu.fitB xs xb ks ms = true := by simpa using hc1
  have hfu := Hu.fit_use hft
  refine wp_skip ?_
  refine hK2 _ _ ?_
  clear hK2
  refine wp_seq_k ?_; intro K5 hK5
  refine regl ?_
  refine wpl_sq hF hS (sq rfl (q_mkf rfl rfl) <|
    sq_end) ?_
  clear hF hS; intro a w hF hS
  refine wpl_ef hF hS rfl (ef_alloc1 ty98 (by rfl)) ?_
  clear hF hS; rintro _ _ _ a w ⟨b3, rfl, rfl, rfl⟩ hF hS
  refine wpl_ef hF hS rfl (ef_store1 ty98 0 rfl rfl rfl rfl (by simp)) ?_
  clear hF hS; rintro _ _ _ a w ⟨rfl, rfl, rfl⟩ hF hS
  (try simp only [List.set_cons_zero, List.set_cons_succ] at hS)
  replace hS : St _ [] [_, _, _] _ := hS
  refine wpList_nil ?_
  refine hK5 _ _ ?_
  clear hK5
  refine wp_seq_k ?_; intro K6 hK6
  refine regl ?_
  refine wpl_ef hF hS rfl (ef_alloc1 ty3 (by rfl)) ?_
  clear hF hS; rintro _ _ _ a w ⟨b4, rfl, rfl, rfl⟩ hF hS
  refine wpl_ef hF hS rfl (ef_store1 ty3 0 rfl rfl rfl rfl (by simp)) ?_
  clear hF hS; rintro _ _ _ a w ⟨rfl, rfl, rfl⟩ hF hS
  (try simp only [List.set_cons_zero, List.set_cons_succ] at hS)
  replace hS : St _ [] [_, _, _, _] _ := hS
  refine wpList_nil ?_
  refine hK6 _ _ ?_
  clear hK6
  refine wp_seq_k ?_; intro K7 hK7
  refine wp_seq_k ?_; intro K8 hK8
  refine regl ?_
  refine wpl_sq hF hS (sq rfl (q_ld_blkW ty42 3 rfl rfl bQ rfl) <|
    sq rfl (q_ld_blkW ty38 2 rfl rfl bQ rfl) <|
    sq_end) ?_
  clear hF hS; intro a w hF hS
  refine wpl_ef hF hS rfl (ef_call fn63 rfl (fun w hS => free_ct _ _ _ _ _ _ _ _ _ w hxn (Sl.mono (hS.le zin0) hxs) (Sl.mono (hS.le zin0) hxb) (Sl.mono (hS.le zin0) hk) (Sl.mono (hS.le zin0) hm))) ?_
  clear hF hS; rintro _ _ _ a w ⟨_, _, rfl, rfl, ⟨e1, e2, rfl, rfl, rfl⟩⟩ hF hS
  replace hS : St _ [] [_, _, _, _, _, _] _ := hS
  refine wpList_nil ?_
  refine hK8 _ _ ?_
  clear hK8
  refine wp_block ?_
  replace hS : St _ [] [_, _, _, _, _, _] _ := hS
  obtain ⟨hs0, hhs0, hS⟩ : ∃ h, h = _ ∧ St _ _ h _ := ⟨_, rfl, hS⟩
  refine wp_rangeF (fun r => hs0.set 2 r) ((fun k r => r = .blk b4 3 [vi (Hu.bst xs ms ((Hu.frl xs xb ms).take k))])) ((Hu.frl xs xb ms).length) ((fun k => vi (((Hu.frl xs xb ms).getD k 0 : Nat) : Int))) (.blk b4 3 [vi (-1)]) hF (by subst hhs0; exact hS) rfl rfl rfl (fn77) (rfl) (fun Y zs1 hzz hY w hS => ?_) (fun l9 m9 zB zD k9 r9 a w hk9 hi9 hF hS => ?_) (fun I D zD a w r9 hI hD hi9 hF hS => ?_)
  ·subst hhs0
   exact CxH.full (free1_ct xN xS xB xs xb kV mV ks ms e1 e2 Y hfu.2.1 hfu.2.2.2.1 _ zs1 _ _ _ hxn hxs hxb hk hm rfl hY) w hS
  ·subst hhs0
   (try dsimp only at hF); (try dsimp only [List.set_cons_zero, List.set_cons_succ] at hS)
   replace hS : St _ [_, _] [_, _, _, _, _, _] _ := hS
   subst hi9
   obtain ⟨i, hie⟩ : ∃ i : Int, i = (((Hu.frl xs xb ms).getD k9 0 : Nat) : Int) := ⟨_, rfl⟩
   rw [← hie] at hF
   have hfg := Hu.frl_get hk9
   have hib : 0 ≤ i ∧ i < xs.length := by rw [hie]; exact ⟨by omega, by have := hfg.1; omega⟩
   have hbr := Hu.bstk_rng (xs := xs) (xb := xb) (ms := ms) k9
   obtain ⟨b, hb9⟩ : ∃ b, b = Hu.bst xs ms ((Hu.frl xs xb ms).take k9) := ⟨_, rfl⟩
   rw [← hb9] at hbr hS
   replace hS : St _ [_, _] [_, _, _, _, _, _] _ := hS
   refine wpIn_block ?_
   refine wpIn_seq_k ?_; intro K9 hK9
   refine regqR (by rfl) mixed kQ hS ?_
   refine wpq_seg hF (sq rfl (q_fieldAddr ty38 rfl rfl (s' := 0) kQ) <|
     sq rfl (q_ld_blk1 ty22 4 rfl rfl rfl rfl) <|
     sq rfl (q_move rfl) <|
     sq rfl (q_idx_sl ty22 ty3 hm rfl rfl (by omega)) <|
     sq rfl (q_ld_I ty3 hm zin0 rfl rfl (by omega)) <|
     sq rfl (q_eqi rfl rfl) <|
     sq rfl (q_move rfl) <|
     sq_end) ?_
   clear hF; intro a hF
   refine wpq_andG (q := (decide (b < 0) || decide (Hu.szF (xs.getD i.toNat 0) < Hu.szF (xs.getD b.toNat 0)))) 25 11 hF rfl (by rfl) rfl (by exact trivial) (fun _ => sq_skip 25 rfl rfl rfl rfl <|
     sq_skip 25 rfl rfl rfl rfl <|
     sq_skip 25 rfl rfl rfl rfl <|
     sq_skipu 28 rfl rfl rfl <|
     sq_skipu 28 rfl rfl rfl <|
     sq_skipu 28 rfl rfl rfl <|
     sq_skipu 28 rfl rfl rfl <|
     sq_skipu 28 rfl rfl rfl <|
     sq_skipu 28 rfl rfl rfl <|
     sq_skipu 28 rfl rfl rfl <|
     sq_skip 25 rfl rfl rfl rfl <|
     sq_end) rfl (fun hg a hF KG => ?_) ?_
   ·have hg := (by first | exact of_decide_eq_true hg | exact hg)
    refine wpq_seg hF (sq_go 25 rfl rfl rfl (q_ld_blk1 ty3 2 rfl rfl rfl rfl) <|
      sq_go 25 rfl rfl rfl (q_lti rfl rfl) <|
      sq_go 25 rfl rfl rfl (q_move rfl) <|
      sq_end) ?_
    clear hF; intro a hF
    refine wpq_orP 9 28 7 6 25 hF rfl rfl rfl rfl rfl rfl rfl (fun hg => have hg := (by first | exact of_decide_eq_false hg | exact hg); sq_go 28 rfl rfl rfl (q_ld_blk1 ty98 3 rfl rfl rfl rfl) <|
      sq_go 28 rfl rfl rfl (q_move rfl) <|
      sq_go 28 rfl rfl rfl (q_callv fn61 rfl rfl (by exact fun w hS => size1_ct _ _ _ _ _ _ _ (by omega) w (own_box hS 5 rfl) hxn (Sl.mono (hS.le zin0) hxs) (Sl.mono (hS.le zin0) hxb)) (fun _ _ _ h => h)) <|
      sq_go 28 rfl rfl rfl (q_ld_blk1 ty98 3 rfl rfl rfl rfl) <|
      sq_go 28 rfl rfl rfl (q_ld_blk1 ty3 2 rfl rfl rfl rfl) <|
      sq_go 28 rfl rfl rfl (q_callv fn61 rfl rfl (by exact fun w hS => size1_ct _ _ _ _ _ _ _ (by omega) w (own_box hS 5 rfl) hxn (Sl.mono (hS.le zin0) hxs) (Sl.mono (hS.le zin0) hxb)) (fun _ _ _ h => h)) <|
      sq_go 28 rfl rfl rfl (q_lti rfl rfl) <|
      sq_end) rfl rfl ?_
    clear hF; intro a hF
    refine wpq_seg hF (sq rfl (q_pick_t rfl rfl) <|
      sq_end) ?_
    clear hF; intro a hF
    exact KG _ (hF.under 4 rfl rfl)
   clear hF; intro a hF
   refine wpq_nil ?_
   clear hS; intro w hS
   refine hK9 _ _ ?_
   clear hK9
   refine wp_ifR hF rfl (fun hc2 => ?_) (fun hc2 => ?_)
   ·(try simp only [Bool.or_eq_true, Bool.and_eq_true, Bool.or_eq_false_iff, Bool.and_eq_false_iff, decide_eq_true_eq, decide_eq_false_iff_not, Bool.not_eq_true', Bool.not_eq_false'] at hc2)
    refine reglR (by rfl) ?_
    refine wpl_sq hF hS (sq rfl (q_move rfl) <|
      sq_end) ?_
    clear hF hS; intro a w hF hS
    refine wpl_ef hF hS rfl (ef_store1 ty3 2 rfl rfl rfl rfl (by simp)) ?_
    clear hF hS; rintro _ _ _ a w ⟨rfl, rfl, rfl⟩ hF hS
    (try simp only [List.set_cons_zero, List.set_cons_succ] at hS)
    replace hS : St _ [_, _] [_, _, _, _, _, _] _ := hS
    refine listR ?_
    exact And.intro rfl ⟨.blk _ _ [vi i], by rw [Hu.bst_t hk9 hie hb9 hc2], hS⟩
   ·(try simp only [Bool.or_eq_true, Bool.and_eq_true, Bool.or_eq_false_iff, Bool.and_eq_false_iff, decide_eq_true_eq, decide_eq_false_iff_not, Bool.not_eq_true', Bool.not_eq_false'] at hc2)
    refine wpIn_skip ?_
    exact And.intro rfl ⟨.blk _ _ [vi b], by rw [Hu.bst_f hk9 hie hb9 (by omega)], hS⟩
  subst hhs0
  (try dsimp only at hF); (try dsimp only [List.set_cons_zero, List.set_cons_succ] at hS)
  replace hS : St _ [_] [_, _, _, _, _, _] _ := hS
  subst hi9
  rw [List.take_length] at hS
  have hbr := Hu.bst_rng (xs := xs) (ms := ms) (Hu.frl xs xb ms) xs.length Hu.frl_lt
  obtain ⟨b, hb9⟩ : ∃ b, b = Hu.nxB xs xb ms := ⟨_, rfl⟩
  rw [show Hu.bst xs ms (Hu.frl xs xb ms) = b from hb9.symm] at hbr hS
  replace hS : St _ [_] [_, _, _, _, _, _] _ := hS
  refine hK7 _ _ ?_
  clear hK7
  refine wp_seq_k ?_; intro K10 hK10
  refine wp_seq_k ?_; intro K11 hK11
  refine reg hF hS (sq rfl (q_ld_blk1 ty3 2 rfl rfl rfl rfl) <|
    sq rfl (q_lti rfl rfl) <|
    sq_end) ?_
  clear hF hS; intro a w hF hS
  refine hK11 _ _ ?_
  clear hK11
  refine wp_ifd hF rfl (fun hc3 => ?_) (fun hc3 => ?_)
  ·refine wp_seq_k ?_; intro K12 hK12
   refine reg hF hS (sq rfl (q_assign rfl) <|
     sq rfl (q_assign rfl) <|
     sq rfl (q_assign rfl) <|
     sq_end) ?_
   clear hF hS; intro a w hF hS
   refine hK12 _ _ ?_
   clear hK12
   refine wp_ret ?_
   exact fn_retD hI hD (by simp) (rs := [.tmp 4, .tmp 5, .tmp 6]) rfl hF hS (vs := [_, _, _]) ⟨rfl, rfl, rfl, trivial⟩ zQ (Hu.nxT0 hft (by omega))
  ·refine wp_skip ?_
   refine hK10 _ _ ?_
   clear hK10
   refine wp_seq_k ?_; intro K13 hK13
   refine reg hF hS (sq rfl (q_fieldAddr ty42 rfl rfl (s' := 0) kQ) <|
     sq rfl (q_ld_blk1 ty22 5 rfl rfl rfl rfl) <|
     sq rfl (q_ld_blk1 ty3 2 rfl rfl rfl rfl) <|
     sq rfl (q_idx_sl ty22 ty3 hxs rfl rfl (by omega)) <|
     sq rfl (q_ld_I ty3 hxs zin0 rfl rfl (by omega)) <|
     sq rfl (q_assign rfl) <|
     sq rfl (q_assign rfl) <|
     sq rfl (q_assign rfl) <|
     sq_end) ?_
   clear hF hS; intro a w hF hS
   refine hK13 _ _ ?_
   clear hK13
   refine wp_ret ?_
   exact fn_retD hI hD (by simp) (rs := [.tmp 4, .tmp 5, .tmp 6]) rfl hF hS (vs := [_, _, _]) ⟨rfl, rfl, rfl, trivial⟩ zQ (by subst hb9; exact Hu.nxT1 hft hc3)
end Go.Proofs.Ytefjpigmgmbghaa
