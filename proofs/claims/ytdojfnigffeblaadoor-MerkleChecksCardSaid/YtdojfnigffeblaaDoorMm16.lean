/- A text of a proof over this seat: walks over the program's functions and the plain laws that they need. -/
import Derived.Test.YtdojfnigffeblaaDoorMm15
import Derived.Test.YtdojfnigffeblaaDoorMkA
import Derived.Test.YtdojfnigffeblaaDoorFwD
import Derived.Test.YtdojfnigffeblaaDoorFwB
set_option linter.all false
namespace Go.Proofs.YtdojfnigffeblaaDoor
open Go.Fw
theorem fn14 : FnOk Tryd.prog 14 := ⟨_, Tryd.func14, rfl, by kernel_rfl⟩
theorem fn31 : FnOk Tryd.prog 31 := ⟨_, Tryd.func31, rfl, by kernel_rfl⟩
theorem fn33 : FnOk Tryd.prog 33 := ⟨_, Tryd.func33, rfl, by kernel_rfl⟩

attribute [local irreducible] Sha.sum Sha.mac Sha.ofD Wi.int Wi.ints Wi.bytes Sha.inp Mk.half Lib.compareBytes Mk.frm Mk.rootD Mk.provE Mk.rangE Mk.rootE Mk.chkE Mk.chkR Mk.shown Mk.leavesL Mk.keyL Mk.keyB Mk.hasI Mk.inside Mk.bent Mk.coll Mk.vE Mk.rowD Gu.arnd

set_option maxRecDepth 4000 in
set_option maxHeartbeats 2000000 in
theorem mlaw3_ct (v1 v2 : Value) (l n : List Int) (k m how b : Int) (hk9 : -9223372036854775808 ≤ k ∧ k ≤ 9223372036854775807) (hm9 : -9223372036854775808 ≤ m ∧ m ≤ 9223372036854775807) (hh9 : -9223372036854775808 ≤ how ∧ how ≤ 9223372036854775807) (hb9 : -9223372036854775808 ≤ b ∧ b ≤ 9223372036854775807) (w : World) (hb1 : Sl encI (ph w) v1 l) (hb2 : Sl encI (ph w) v2 n) {fz0 : Nat × Nat} {bt0 : TypeId} (hg0 : w.heap[0]? = some (.cells (Sha.kc.map vw).toArray bt0 fz0)) {fz1 : Nat × Nat} {bt1 : TypeId} (hg1 : w.heap[2]? = some (.cells (Sha.kc.map vw).toArray bt1 fz1)) : Ct Tryd.prog 5 [v1, v2, vi k, vi m, vi how, vi b] w (fun r _ _ => r = .bool true) := by
 refine fn_enter Tryd.func5 rfl Tryd.ntmps5 (Nat.le_of_ble_eq_true rfl) fun a hF hS => ?_
 obtain ⟨X, hX⟩ : ∃ x, x = Mk.leavesL l := ⟨_, rfl⟩
 have hlbX := Mk.leaves_bd l
 have hvX := Mk.leaves_vE l
 rw [← hX] at hlbX hvX
 obtain ⟨hlnX, hlxX⟩ := hlbX
 obtain ⟨rtX, hrtX⟩ : ∃ x, x = (Mk.rootE X).1 := ⟨_, rfl⟩
 have hrlX : rtX.length = 16 := by rw [hrtX, Mk.rootE_n hvX]; exact Mk.rootD_16 _ _
 have hroX : Mk.rootE X = (rtX, 0) := by rw [hrtX, Mk.rootE_n hvX]
 have hrnX : (Mk.rootE X).1.length = 16 := by rw [← hrtX]; exact hrlX
 obtain ⟨Y, hY⟩ : ∃ x, x = Mk.leavesL n := ⟨_, rfl⟩
 have hlbY := Mk.leaves_bd n
 have hvY := Mk.leaves_vE n
 rw [← hY] at hlbY hvY
 obtain ⟨hlnY, hlxY⟩ := hlbY
 obtain ⟨rtY, hrtY⟩ : ∃ x, x = (Mk.rootE Y).1 := ⟨_, rfl⟩
 have hrlY : rtY.length = 16 := by rw [hrtY, Mk.rootE_n hvY]; exact Mk.rootD_16 _ _
 have hroY : Mk.rootE Y = (rtY, 0) := by rw [hrtY, Mk.rootE_n hvY]
 have hrnY : (Mk.rootE Y).1.length = 16 := by rw [← hrtY]; exact hrlY
 obtain ⟨ka, hka⟩ : ∃ x, x = Mk.keyL X k := ⟨_, rfl⟩
 have hklka : ka.length ≤ 8 := by rw [hka]; exact Nat.le_trans (Mk.keyL_len (fun x hx => (hlxX x hx).1) _) (by omega)
 obtain ⟨kb, hkb⟩ : ∃ x, x = Mk.keyL X m := ⟨_, rfl⟩
 have hklkb : kb.length ≤ 8 := by rw [hkb]; exact Nat.le_trans (Mk.keyL_len (fun x hx => (hlxX x hx).1) _) (by omega)
 obtain ⟨kc, hkc⟩ : ∃ x, x = Mk.keyL X b := ⟨_, rfl⟩
 have hklkc : kc.length ≤ 8 := by rw [hkc]; exact Nat.le_trans (Mk.keyL_len (fun x hx => (hlxX x hx).1) _) (by omega)
 have hbX3 : ∀ x ∈ X, x.1.length ≤ 3 ∧ x.2.length ≤ 3 := fun x hx => by have := hlxX x hx; omega
 have hbY3 : ∀ x ∈ Y, x.1.length ≤ 3 ∧ x.2.length ≤ 3 := fun x hx => by have := hlxY x hx; omega
 obtain ⟨pa, hpa⟩ : ∃ x, x = (Mk.provE X ka).1 := ⟨_, rfl⟩
 obtain ⟨pb, hpb⟩ : ∃ x, x = (Mk.rangE X ka kb).1 := ⟨_, rfl⟩
 obtain ⟨pc, hpc⟩ : ∃ x, x = (Mk.provE Y ka).1 := ⟨_, rfl⟩
 obtain ⟨Ba, hBa⟩ : ∃ x, x = Mk.bent pa how b := ⟨_, rfl⟩
 obtain ⟨Bb, hBb⟩ : ∃ x, x = Mk.bent pb b how := ⟨_, rfl⟩
 obtain ⟨Bc, hBc⟩ : ∃ x, x = Mk.bent Ba b how := ⟨_, rfl⟩
 obtain ⟨Bd, hBd⟩ : ∃ x, x = Mk.bent Bb how b := ⟨_, rfl⟩
 have hsa : Mk.smP pa 11 3 := by rw [hpa]; exact Mk.smP_mono (Mk.prov_sm hbX3 ka) hlnX (Nat.le_refl _)
 have hsb : Mk.smP pb 11 3 := by rw [hpb]; exact Mk.smP_mono (Mk.rang_sm hbX3 ka kb) hlnX (Nat.le_refl _)
 have hsc : Mk.smP pc 11 3 := by rw [hpc]; exact Mk.smP_mono (Mk.prov_sm hbY3 ka) hlnY (Nat.le_refl _)
 have hsBa := Mk.bent_sm hsa how b
 rw [← hBa] at hsBa
 have hsBb := Mk.bent_sm hsb b how
 rw [← hBb] at hsBb
 have hsBc := Mk.bent_sm hsBa b how
 rw [← hBc] at hsBc
 have hsBd := Mk.bent_sm hsBb how b
 rw [← hBd] at hsBd
 obtain ⟨QQ, hQQ⟩ : ∃ x, x = [pa, pb, pc, Ba, Bb, Bc, Bd, Mk.pf0] := ⟨_, rfl⟩
 obtain ⟨KK, hKK⟩ : ∃ x, x = [ka, kb, kc] := ⟨_, rfl⟩
 have hQn : QQ.length = 8 := by rw [hQQ]; rfl
 have hKn : KK.length = 3 := by rw [hKK]; rfl
 have hQb : ∀ j, Mk.smP (QQ.getD j Mk.pf0) 20 20 := by
  rw [hQQ]
  exact Mk.eight_sm (Mk.smP_mono hsa (by decide) (by decide)) (Mk.smP_mono hsb (by decide) (by decide)) (Mk.smP_mono hsc (by decide) (by decide)) (Mk.smP_mono hsBa (by decide) (by decide)) (Mk.smP_mono hsBb (by decide) (by decide)) (Mk.smP_mono hsBc (by decide) (by decide)) (Mk.smP_mono hsBd (by decide) (by decide)) (Mk.pf0_sm _ _)
 refine wp_seq_k ?_; intro K1 hK1
 refine reg hF hS (sq rfl (q_assign rfl) <|
   sq_end) ?_
 clear hF hS; intro a w hF hS
 refine hK1 _ _ ?_
 clear hK1
 refine wp_seq_k ?_; intro K2 hK2
 refine regl ?_
 refine wpl_sq hF hS (sq rfl (q_move rfl) <|
   sq_end) ?_
 clear hF hS; intro a w hF hS
 refine wpl_ef hF hS rfl (ef_call fn10 rfl (fun w hS => leaves_ct _ _ w (Sl.mono (hS.le zin0) hb1))) ?_
 clear hF hS; rintro v1 _ _ a w ⟨_, _, rfl, rfl, ⟨z2, hz3, rfl, rfl⟩⟩ hF hS
 (try rw [← hX] at hF); rw [← hX] at hz3
 replace hS : St _ [_] [] _ := hS
 refine wpl_sq hF hS (sq rfl (q_assign rfl) <|
   sq_end) ?_
 clear hF hS; intro a w hF hS
 refine wpList_nil ?_
 refine hK2 _ _ ?_
 clear hK2
 refine wp_seq_k ?_; intro K3 hK3
 refine regl ?_
 refine wpl_sq hF hS (sq rfl (q_move rfl) <|
   sq_end) ?_
 clear hF hS; intro a w hF hS
 refine wpl_ef hF hS rfl (ef_call fn10 rfl (fun w hS => leaves_ct _ _ w (Sl.mono (hS.le zin0) hb2))) ?_
 clear hF hS; rintro v4 _ _ a w ⟨_, _, rfl, rfl, ⟨z5, hz6, rfl, rfl⟩⟩ hF hS
 (try rw [← hY] at hF); rw [← hY] at hz6
 replace hS : St _ [_, _] [] _ := hS
 refine wpl_sq hF hS (sq rfl (q_assign rfl) <|
   sq_end) ?_
 clear hF hS; intro a w hF hS
 refine wpList_nil ?_
 refine hK3 _ _ ?_
 clear hK3
 refine wp_seq_k ?_; intro K4 hK4
 refine regl ?_
 refine wpl_sq hF hS (sq rfl (q_move rfl) <|
   sq rfl (q_call fn14 rfl (fun w hS => rroot_ct _ _ w (Sl.mono (hS.le (.inr (by simp))) hz3) (hS.ext _ _ hg0)) (fun _ _ _ h => h)) <|
   sq rfl (q_move rfl) <|
   sq rfl (q_extract rfl rfl) <|
   sq rfl (q_extract rfl rfl) <|
   sq_end) ?_
 clear hF hS; intro a w hF hS
 refine wpl_ef hF hS rfl (ef_allocA ty29) ?_
 clear hF hS; rintro _ _ _ a w ⟨b7, rfl, rfl, rfl⟩ hF hS
 rw [show List.replicate 16 (Value.int .u8 0) = (List.replicate 16 (0 : UInt8)).map vb from by rw [List.map_replicate] <;> rfl] at hS
 refine wpl_ef hF hS rfl (ef_storeW ty29 0 rfl rfl rfl rfl bQ oQ bQ) ?_
 clear hF hS; rintro _ _ _ a w ⟨rfl, rfl, rfl⟩ hF hS
 replace hS : St _ [_, _] [_] _ := hS
 refine wpl_sq hF hS (sq rfl (q_assign rfl) <|
   sq_end) ?_
 clear hF hS; intro a w hF hS
 refine wpList_nil ?_
 rw [hroX] at hF hS; (try dsimp only at hF); (try dsimp only at hS)
 refine hK4 _ _ ?_
 clear hK4
 refine wp_seq_k ?_; intro K5 hK5
 refine regl ?_
 refine wpl_sq hF hS (sq rfl (q_move rfl) <|
   sq rfl (q_move rfl) <|
   sq rfl (q_move rfl) <|
   sq rfl (q_call fn20 rfl (fun w hS => keyL_ct _ _ _ (by omega) (fun x hx => by have := hlxX x hx; omega) (by omega) w (Sl.mono (hS.le (.inr (by simp))) hz3)) (fun _ _ _ h => h)) <|
   sq_end) ?_
 clear hF hS; intro a w hF hS
 refine wpl_ef hF hS rfl (ef_call fn23 rfl (fun w hS => rprove_ct _ _ (Mk.keyL X k) w (Sl.mono (hS.le (.inr (by simp))) hz3) (hS.ext _ _ hg0))) ?_
 clear hF hS; rintro _ _ _ a w ⟨_, _, rfl, rfl, ⟨l9, s10, z11, rfl, hl12, hs13, rfl, rfl⟩⟩ hF hS
 rw [← hka] at hF hl12 hs13
 (try rw [← hpa] at hF); rw [← hpa] at hl12 hs13
 replace hS : St _ [_, _, _] [_] _ := hS
 refine wpl_sq hF hS (sq rfl (q_move rfl) <|
   sq rfl (q_extract rfl rfl) <|
   sq rfl (q_extract rfl rfl) <|
   sq_end) ?_
 clear hF hS; intro a w hF hS
 refine wpl_ef hF hS rfl (ef_allocA ty54) ?_
 clear hF hS; rintro _ _ _ a w ⟨b14, rfl, rfl, rfl⟩ hF hS
 refine wpl_ef hF hS rfl (ef_storeW ty54 0 rfl rfl rfl rfl bQ (oc_cons rfl (oc_cons rfl (oc_cons (sl_one' hl12) (oc_cons (sl_one' hs13) oc_nil)))) bQ) ?_
 clear hF hS; rintro _ _ _ a w ⟨rfl, rfl, rfl⟩ hF hS
 replace hS : St _ [_, _, _] [_, _] _ := hS
 refine wpl_sq hF hS (sq rfl (q_assign rfl) <|
   sq_end) ?_
 clear hF hS; intro a w hF hS
 refine wpList_nil ?_
 refine hK5 _ _ ?_
 clear hK5
 refine wp_seq_k ?_; intro K6 hK6
 refine regl ?_
 refine wpl_sq hF hS (sq rfl (q_move rfl) <|
   sq rfl (q_move rfl) <|
   sq rfl (q_move rfl) <|
   sq rfl (q_call fn20 rfl (fun w hS => keyL_ct _ _ _ (by omega) (fun x hx => by have := hlxX x hx; omega) (by omega) w (Sl.mono (hS.le (.inr (by simp))) hz3)) (fun _ _ _ h => h)) <|
   sq rfl (q_move rfl) <|
   sq rfl (q_move rfl) <|
   sq rfl (q_call fn20 rfl (fun w hS => keyL_ct _ _ _ (by omega) (fun x hx => by have := hlxX x hx; omega) (by omega) w (Sl.mono (hS.le (.inr (by simp))) hz3)) (fun _ _ _ h => h)) <|
   sq_end) ?_
 clear hF hS; intro a w hF hS
 refine wpl_ef hF hS rfl (ef_call fn25 rfl (fun w hS => rrange_ct _ _ (Mk.keyL X k) (Mk.keyL X m) w (Sl.mono (hS.le (.inr (by simp))) hz3) (hS.ext _ _ hg0))) ?_
 clear hF hS; rintro _ _ _ a w ⟨_, _, rfl, rfl, ⟨l16, s17, z18, rfl, hl19, hs20, rfl, rfl⟩⟩ hF hS
 rw [← hka] at hF hl19 hs20
 rw [← hkb] at hF hl19 hs20
 (try rw [← hpb] at hF); rw [← hpb] at hl19 hs20
 replace hS : St _ [_, _, _, _] [_, _] _ := hS
 refine wpl_sq hF hS (sq rfl (q_move rfl) <|
   sq rfl (q_extract rfl rfl) <|
   sq rfl (q_extract rfl rfl) <|
   sq_end) ?_
 clear hF hS; intro a w hF hS
 refine wpl_ef hF hS rfl (ef_allocA ty54) ?_
 clear hF hS; rintro _ _ _ a w ⟨b21, rfl, rfl, rfl⟩ hF hS
 refine wpl_ef hF hS rfl (ef_storeW ty54 0 rfl rfl rfl rfl bQ (oc_cons rfl (oc_cons rfl (oc_cons (sl_one' hl19) (oc_cons (sl_one' hs20) oc_nil)))) bQ) ?_
 clear hF hS; rintro _ _ _ a w ⟨rfl, rfl, rfl⟩ hF hS
 replace hS : St _ [_, _, _, _] [_, _, _] _ := hS
 refine wpl_sq hF hS (sq rfl (q_assign rfl) <|
   sq_end) ?_
 clear hF hS; intro a w hF hS
 refine wpList_nil ?_
 refine hK6 _ _ ?_
 clear hK6
 refine wp_seq_k ?_; intro K7 hK7
 refine regl ?_
 refine wpl_sq hF hS (sq rfl (q_move rfl) <|
   sq rfl (q_move rfl) <|
   sq rfl (q_move rfl) <|
   sq rfl (q_call fn20 rfl (fun w hS => keyL_ct _ _ _ (by omega) (fun x hx => by have := hlxX x hx; omega) (by omega) w (Sl.mono (hS.le (.inr (by simp))) hz3)) (fun _ _ _ h => h)) <|
   sq_end) ?_
 clear hF hS; intro a w hF hS
 refine wpl_ef hF hS rfl (ef_call fn23 rfl (fun w hS => rprove_ct _ _ (Mk.keyL X k) w (Sl.mono (hS.le (.inr (by simp))) hz6) (hS.ext _ _ hg0))) ?_
 clear hF hS; rintro _ _ _ a w ⟨_, _, rfl, rfl, ⟨l23, s24, z25, rfl, hl26, hs27, rfl, rfl⟩⟩ hF hS
 rw [← hka] at hF hl26 hs27
 (try rw [← hpc] at hF); rw [← hpc] at hl26 hs27
 replace hS : St _ [_, _, _, _, _] [_, _, _] _ := hS
 refine wpl_sq hF hS (sq rfl (q_move rfl) <|
   sq rfl (q_extract rfl rfl) <|
   sq rfl (q_extract rfl rfl) <|
   sq_end) ?_
 clear hF hS; intro a w hF hS
 refine wpl_ef hF hS rfl (ef_allocA ty54) ?_
 clear hF hS; rintro _ _ _ a w ⟨b28, rfl, rfl, rfl⟩ hF hS
 refine wpl_ef hF hS rfl (ef_storeW ty54 0 rfl rfl rfl rfl bQ (oc_cons rfl (oc_cons rfl (oc_cons (sl_one' hl26) (oc_cons (sl_one' hs27) oc_nil)))) bQ) ?_
 clear hF hS; rintro _ _ _ a w ⟨rfl, rfl, rfl⟩ hF hS
 replace hS : St _ [_, _, _, _, _] [_, _, _, _] _ := hS
 refine wpl_sq hF hS (sq rfl (q_assign rfl) <|
   sq_end) ?_
 clear hF hS; intro a w hF hS
 refine wpList_nil ?_
 refine hK7 _ _ ?_
 clear hK7
 refine wp_seq_k ?_; intro K8 hK8
 refine regl ?_
 refine wpl_sq hF hS (sq rfl (q_ld_blkW ty54 2 rfl rfl bQ rfl) <|
   sq rfl (q_move rfl) <|
   sq rfl (q_move rfl) <|
   sq_end) ?_
 clear hF hS; intro a w hF hS
 refine wpl_ef hF hS rfl (ef_call fn28 rfl (fun w hS => bent_ct pa _ _ _ _ (by omega) (by omega) (Mk.smP_mono hsa (by decide) (by decide)) w (Sl.mono (hS.le (.inr (by simp))) hl12) (Sl.mono (hS.le (.inr (by simp))) hs13))) ?_
 clear hF hS; rintro _ _ _ a w ⟨_, _, rfl, rfl, ⟨l30, s31, z32, rfl, hl33, hs34, rfl, rfl⟩⟩ hF hS
 rw [← hBa] at hF hl33 hs34
 replace hS : St _ [_, _, _, _, _, _] [_, _, _, _] _ := hS
 refine wpl_ef hF hS rfl (ef_allocA ty54) ?_
 clear hF hS; rintro _ _ _ a w ⟨b35, rfl, rfl, rfl⟩ hF hS
 refine wpl_ef hF hS rfl (ef_storeW ty54 0 rfl rfl rfl rfl bQ (oc_cons rfl (oc_cons rfl (oc_cons (sl_one' hl33) (oc_cons (sl_one' hs34) oc_nil)))) bQ) ?_
 clear hF hS; rintro _ _ _ a w ⟨rfl, rfl, rfl⟩ hF hS
 replace hS : St _ [_, _, _, _, _, _] [_, _, _, _, _] _ := hS
 refine wpList_nil ?_
 refine hK8 _ _ ?_
 clear hK8
 refine wp_seq_k ?_; intro K9 hK9
 refine regl ?_
 refine wpl_sq hF hS (sq rfl (q_ld_blkW ty54 2 rfl rfl bQ rfl) <|
   sq rfl (q_move rfl) <|
   sq rfl (q_move rfl) <|
   sq_end) ?_
 clear hF hS; intro a w hF hS
 refine wpl_ef hF hS rfl (ef_call fn28 rfl (fun w hS => bent_ct pb _ _ _ _ (by omega) (by omega) (Mk.smP_mono hsb (by decide) (by decide)) w (Sl.mono (hS.le (.inr (by simp))) hl19) (Sl.mono (hS.le (.inr (by simp))) hs20))) ?_
 clear hF hS; rintro _ _ _ a w ⟨_, _, rfl, rfl, ⟨l37, s38, z39, rfl, hl40, hs41, rfl, rfl⟩⟩ hF hS
 rw [← hBb] at hF hl40 hs41
 replace hS : St _ [_, _, _, _, _, _, _] [_, _, _, _, _] _ := hS
 refine wpl_ef hF hS rfl (ef_allocA ty54) ?_
 clear hF hS; rintro _ _ _ a w ⟨b42, rfl, rfl, rfl⟩ hF hS
 refine wpl_ef hF hS rfl (ef_storeW ty54 0 rfl rfl rfl rfl bQ (oc_cons rfl (oc_cons rfl (oc_cons (sl_one' hl40) (oc_cons (sl_one' hs41) oc_nil)))) bQ) ?_
 clear hF hS; rintro _ _ _ a w ⟨rfl, rfl, rfl⟩ hF hS
 replace hS : St _ [_, _, _, _, _, _, _] [_, _, _, _, _, _] _ := hS
 refine wpList_nil ?_
 refine hK9 _ _ ?_
 clear hK9
 refine wp_seq_k ?_; intro K10 hK10
 revert hS; revert hF; apply regJ (J := J7 (α0 := Value) (α1 := Value) (α2 := PH) (α3 := Value) (α4 := Value) (α5 := PH) (α6 := Value) 214 _ _ _ _ _) #[false, false, false, false, false, false, false, false, false, false, false, false, false, false, false, false] 16 mixed rfl rfl
 ·intro w hF hS
  refine goW_take 0 _ rfl kQ rfl hF (hS.keep sQ (zQ.k.n.n.n.n)) (q_ld_blkW ty54 0 rfl rfl bQ rfl) ?_
  clear hF; intro a hF
  refine goW_take 1 _ rfl kQ rfl hF (hS.keep sQ (zQ.k.n.n.n)) (q_ld_blkW ty54 0 rfl rfl bQ rfl) ?_
  clear hF; intro a hF
  refine goW_take 2 _ rfl kQ rfl hF (hS.keep sQ (zQ.k.n.n)) (q_ld_blkW ty54 0 rfl rfl bQ rfl) ?_
  clear hF; intro a hF
  refine goW_take 3 _ rfl kQ rfl hF (hS.keep sQ (zQ.k.n)) (q_ld_blkW ty54 0 rfl rfl bQ rfl) ?_
  clear hF; intro a hF
  refine goW_take 4 _ rfl kQ rfl hF (hS.keep sQ (zQ.k)) (q_ld_blkW ty54 0 rfl rfl bQ rfl) ?_
  clear hF; intro a hF
  refine goW_take 5 _ rfl kQ rfl hF (hS.keep sQ (zQ.k.n)) (q_ld_blkW ty54 0 rfl rfl bQ rfl) ?_
  clear hF; intro a hF
  refine goW_take 6 _ rfl kQ rfl hF (hS.keep sQ zQ) (q_move rfl) ?_
  clear hF; intro a hF
  refine goW_take 7 _ rfl kQ rfl hF (hS.keep sQ zQ) (q_move rfl) ?_
  clear hF; intro a hF
  refine goW_take 9 _ rfl kQ rfl hF (hS.keep sQ (zQ.k)) (q_ld_blkW ty54 0 rfl rfl bQ rfl) ?_
  clear hF; intro a hF
  refine goW_take 10 _ rfl kQ rfl hF (hS.keep sQ zQ) (q_move rfl) ?_
  clear hF; intro a hF
  refine goW_take 11 _ rfl kQ rfl hF (hS.keep sQ zQ) (q_move rfl) ?_
  clear hF; intro a hF
  refine goW_take 13 _ rfl kQ rfl hF (hS.keep sQ zQ) (q_buildP (places := [(0, 1), (1, 1), (2, 1), (3, 1)]) (cells := [.int .i64 0, .int .i64 0, .slice none 0 0, .slice none 0 0]) ty54 kQ rfl (by rfl)) ?_
  clear hF; intro a hF
  refine gQ 8 rfl rfl hF hS rfl (ef_call fn28 rfl (fun w hS => bent_ct Ba _ _ _ _ (by omega) (by omega) (Mk.smP_mono hsBa (by decide) (by decide)) w (Sl.mono (hS.le (.inr (by simp))) hl33) (Sl.mono (hS.le (.inr (by simp))) hs34))) ?_
  clear hF hS; rintro _ _ _ a w ⟨_, _, rfl, rfl, ⟨l_9_8, s_9_8, z_9_8, rfl, hl_9_8, hs_9_8, rfl, rfl⟩⟩ hF hS
  rw [← hBc] at hF hl_9_8 hs_9_8
  replace hS : St _ [_, _, _, _, _, _, _, _] [_, _, _, _, _, _] _ := hS
  refine ⟨⟨.inr (hS.keep (sQ.n) zQ), .inr (hS.keep (sQ.n) zQ), .inr (hS.keep (sQ.n) zQ), .inr (hS.keep (sQ.n) (zQ.k)), iQ, iQ, iQ, .inr (hS.keep (sQ.n) (zQ.k)), .inr (hS.keep (sQ.n) (zQ.k.n)), .inr (hS.keep (sQ.n) (zQ.k.n.n)), .inr (hS.keep (sQ.n) (zQ.k.n.n.n)), .inr (hS.keep (sQ.n) (zQ.k.n.n.n.n)), trivial⟩, ?_⟩
  refine gQ 12 rfl rfl hF hS rfl (ef_call fn28 rfl (fun w hS => bent_ct Bb _ _ _ _ (by omega) (by omega) (Mk.smP_mono hsBb (by decide) (by decide)) w (Sl.mono (hS.le (.inr (by simp))) hl40) (Sl.mono (hS.le (.inr (by simp))) hs41))) ?_
  clear hF hS; rintro _ _ _ a w ⟨_, _, rfl, rfl, ⟨l_9_12, s_9_12, z_9_12, rfl, hl_9_12, hs_9_12, rfl, rfl⟩⟩ hF hS
  rw [← hBd] at hF hl_9_12 hs_9_12
  replace hS : St _ [_, _, _, _, _, _, _, _, _] [_, _, _, _, _, _] _ := hS
  refine ⟨⟨.inr (hS.keep (sQ.n.n) zQ), iQ, iQ, iQ, iQ, iQ, iQ, .inr (hS.keep (sQ.n.n) (zQ.k)), .inr (hS.keep (sQ.n.n) (zQ.k.n)), .inr (hS.keep (sQ.n.n) (zQ.k.n.n)), .inr (hS.keep (sQ.n.n) (zQ.k.n.n.n)), .inr (hS.keep (sQ.n.n) (zQ.k.n.n.n.n)), trivial⟩, ?_⟩
  refine gQ 14 rfl rfl hF hS rfl (ef_bsliceC ty63 ty54 [[_, _, _, _], [_, _, _, _], [_, _, _, _], [_, _, _, _], [_, _, _, _], [_, _, _, _], [_, _, _, _], [_, _, _, _]] rfl rfl (by simp) (oc2_cons (oc_cons rfl (oc_cons rfl (oc_cons (sl_one' hl12) (oc_cons (sl_one' hs13) oc_nil)))) (oc2_cons (oc_cons rfl (oc_cons rfl (oc_cons (sl_one' hl19) (oc_cons (sl_one' hs20) oc_nil)))) (oc2_cons (oc_cons rfl (oc_cons rfl (oc_cons (sl_one' hl26) (oc_cons (sl_one' hs27) oc_nil)))) (oc2_cons (oc_cons rfl (oc_cons rfl (oc_cons (sl_one' hl33) (oc_cons (sl_one' hs34) oc_nil)))) (oc2_cons (oc_cons rfl (oc_cons rfl (oc_cons (sl_one' hl40) (oc_cons (sl_one' hs41) oc_nil)))) (oc2_cons (oc_cons rfl (oc_cons rfl (oc_cons (sl_one' hl_9_8) (oc_cons (sl_one' hs_9_8) oc_nil)))) (oc2_cons (oc_cons rfl (oc_cons rfl (oc_cons (sl_one' hl_9_12) (oc_cons (sl_one' hs_9_12) oc_nil)))) (oc2_cons (oc_cons rfl (oc_cons rfl (oc_cons rfl (oc_cons rfl oc_nil)))) oc2_nil)))))))) (by decide) rfl rfl) ?_
  clear hF hS; rintro v_9_14 _ _ a w ⟨rfl, rfl⟩ hF hS
  refine ⟨⟨iQ, iQ, iQ, iQ, iQ, iQ, iQ, iQ, iQ, iQ, iQ, iQ, trivial⟩, ?_⟩
  refine goW_take 15 _ rfl kQ rfl hF (hS.keep sQ zQ) (q_assign rfl) ?_
  clear hF; intro a hF
  exact goW_done kQ (j7_mk l_9_8 s_9_8 z_9_8 l_9_12 s_9_12 z_9_12 v_9_14 ((And.intro hl_9_8 (And.intro hs_9_8 (And.intro hl_9_12 (And.intro hs_9_12 trivial))))) (hF.sub (L' := [(2, _), (3, _), (5, _), (13, _), (15, _), (25, _)]) ⟨rfl, rfl, rfl, rfl, rfl, rfl, trivial⟩) hS)
 rintro a w ⟨l_9_8, s_9_8, z_9_8, l_9_12, s_9_12, z_9_12, v_9_14, ⟨hl_9_8, hs_9_8, hl_9_12, hs_9_12, -⟩, hF, hS⟩
 (try dsimp only at hF); (try dsimp only at hS)
 replace hS := hS.zone00
 replace hS : St _ [_, _, _, _, _, _, _, _, _, _] [_, _, _, _, _, _, _] _ := hS
 obtain ⟨zu, hzu, hS⟩ := hS.union
 obtain ⟨zY, hzY, hS⟩ := St.freezeE encP (z' := zu) (xs := [pa, pb, pc, Ba, Bb, Bc, Bd, Mk.pf0]) hS (by simp) rfl (by decide) ⟨⟨_, _, rfl, Sl.mono (hzu _ (by simp)) hl12, Sl.mono (hzu _ (by simp)) hs13⟩, ⟨_, _, rfl, Sl.mono (hzu _ (by simp)) hl19, Sl.mono (hzu _ (by simp)) hs20⟩, ⟨_, _, rfl, Sl.mono (hzu _ (by simp)) hl26, Sl.mono (hzu _ (by simp)) hs27⟩, ⟨_, _, rfl, Sl.mono (hzu _ (by simp)) hl33, Sl.mono (hzu _ (by simp)) hs34⟩, ⟨_, _, rfl, Sl.mono (hzu _ (by simp)) hl40, Sl.mono (hzu _ (by simp)) hs41⟩, ⟨_, _, rfl, Sl.mono (hzu _ (by simp)) hl_9_8, Sl.mono (hzu _ (by simp)) hs_9_8⟩, ⟨_, _, rfl, Sl.mono (hzu _ (by simp)) hl_9_12, Sl.mono (hzu _ (by simp)) hs_9_12⟩, ⟨_, _, rfl, sl_nil, sl_nil⟩, trivial⟩
 rw [← hQQ] at hzY
 replace hS : St _ [_, _, _, _, _, _, _, _, _, _, _, _] [_, _, _, _, _, _] _ := hS
 refine hK10 _ _ ?_
 clear hK10
 refine wp_seq_k ?_; intro K11 hK11
 refine regl ?_
 refine wpl_sq hF hS (sq rfl (q_move rfl) <|
   sq rfl (q_move rfl) <|
   sq rfl (q_call fn20 rfl (fun w hS => keyL_ct _ _ _ (by omega) (fun x hx => by have := hlxX x hx; omega) (by omega) w (Sl.mono (hS.le (.inr (by simp))) hz3)) (fun _ _ _ h => h)) <|
   sq rfl (q_move rfl) <|
   sq rfl (q_move rfl) <|
   sq rfl (q_call fn20 rfl (fun w hS => keyL_ct _ _ _ (by omega) (fun x hx => by have := hlxX x hx; omega) (by omega) w (Sl.mono (hS.le (.inr (by simp))) hz3)) (fun _ _ _ h => h)) <|
   sq rfl (q_move rfl) <|
   sq rfl (q_move rfl) <|
   sq rfl (q_call fn20 rfl (fun w hS => keyL_ct _ _ _ (by omega) (fun x hx => by have := hlxX x hx; omega) (by omega) w (Sl.mono (hS.le (.inr (by simp))) hz3)) (fun _ _ _ h => h)) <|
   sq_end) ?_
 clear hF hS; intro a w hF hS
 refine wpl_ef hF hS rfl (ef_bsliceA ty47 ty9 rfl rfl oQ (by decide) rfl rfl) ?_
 clear hF hS; rintro v43 _ _ a w ⟨rfl, rfl⟩ hF hS
 replace hS : St _ [_, _, _, _, _, _, _, _, _, _, _, _] [_, _, _, _, _, _, _] _ := hS
 refine wpl_sq hF hS (sq rfl (q_assign rfl) <|
   sq_end) ?_
 clear hF hS; intro a w hF hS
 refine wpList_nil ?_
 (try rw [← hka, ← hkb, ← hkc] at hS)
 obtain ⟨zK, hzK, hS⟩ := St.freezeV (h0 := fun _ => rfl) (f := vs) (p := fun s => s.length ≤ 140737488355328) (xs := [ka, kb, kc]) hS (by first | rfl | (simp; done)) (by decide) (Mk.three_k (by omega) (by omega) (by omega))
 rw [← hKK] at hzK
 replace hS : St _ [_, _, _, _, _, _, _, _, _, _, _, _, _] [_, _, _, _, _, _] _ := hS
 refine hK11 _ _ ?_
 clear hK11
 refine wp_seq_k ?_; intro K12 hK12
 refine wp_seq_k ?_; intro K13 hK13
 refine reg hF hS (sq rfl (q_assign rfl) <|
   sq_end) ?_
 clear hF hS; intro a w hF hS
 refine hK13 _ _ ?_
 clear hK13
 refine wp_block ?_
 obtain ⟨hs0, hhs0, hS⟩ : ∃ h, h = _ ∧ St _ _ h _ := ⟨_, rfl, hS⟩
 refine wp_loopx (γ := Int) (0) (fun (i : Int) => [(27, vi i)]) [(15, _), (25, _), (26, _)] (fun (i : Int) => hs0) (fun (i : Int) => 0 ≤ i ∧ i ≤ 8) (fun (i : Int) => (8 - i).toNat) (hF.sub ⟨rfl, rfl, rfl, rfl, trivial⟩) (by subst hhs0; exact hS) (by exact ⟨Int.le_refl _, by omega⟩) ?_
 clear hF hS; rintro i a w hfact hF hS
 subst hhs0; (try dsimp only at hfact); (try dsimp only at hF); (try dsimp only at hS)
 obtain ⟨hi0, hi1⟩ := hfact
 replace hS : St _ [_, _, _, _, _, _, _, _, _, _, _, _, _] [_, _, _, _, _, _] _ := hS
 refine wp_seq_k ?_; intro K14 hK14
 refine wp_seq_k ?_; intro K15 hK15
 refine reg hF hS (sq rfl (q_move rfl) <|
   sq rfl (q_move rfl) <|
   sq rfl (q_len_sl ty63 hzY rfl) <|
   sq rfl (q_lti rfl rfl) <|
   sq_end) ?_
 clear hF hS; intro a w hF hS
 refine hK15 _ _ ?_
 clear hK15
 refine wp_ifd hF rfl (fun hc1 => ?_) (fun hc1 => ?_)
 ·refine wp_skip ?_
  refine hK14 _ _ ?_
  clear hK14
  refine wp_seq_k ?_; intro K16 hK16
  refine wp_block ?_
  refine wp_seq_k ?_; intro K17 hK17
  refine reg hF hS (sq rfl (q_assign rfl) <|
    sq_end) ?_
  clear hF hS; intro a w hF hS
  refine hK17 _ _ ?_
  clear hK17
  refine wp_block ?_
  obtain ⟨hs0, hhs0, hS⟩ : ∃ h, h = _ ∧ St _ _ h _ := ⟨_, rfl, hS⟩
  refine wp_loopx (γ := Int) (0) (fun (j : Int) => [(28, vi j)]) [(15, _), (25, _), (26, _), (27, _)] (fun (j : Int) => hs0) (fun (j : Int) => 0 ≤ j ∧ j ≤ 3) (fun (j : Int) => (3 - j).toNat) (hF.sub ⟨rfl, rfl, rfl, rfl, rfl, trivial⟩) (by subst hhs0; exact hS) (by exact ⟨Int.le_refl _, by omega⟩) ?_
  clear hF hS; rintro j a w hfact hF hS
  subst hhs0; (try dsimp only at hfact); (try dsimp only at hF); (try dsimp only at hS)
  obtain ⟨hj0, hj1⟩ := hfact
  replace hS : St _ [_, _, _, _, _, _, _, _, _, _, _, _, _] [_, _, _, _, _, _] _ := hS
  refine wp_seq_k ?_; intro K18 hK18
  refine wp_seq_k ?_; intro K19 hK19
  refine reg hF hS (sq rfl (q_move rfl) <|
    sq rfl (q_move rfl) <|
    sq rfl (q_len_sl ty47 hzK rfl) <|
    sq rfl (q_lti rfl rfl) <|
    sq_end) ?_
  clear hF hS; intro a w hF hS
  refine hK19 _ _ ?_
  clear hK19
  refine wp_ifd hF rfl (fun hc2 => ?_) (fun hc2 => ?_)
  ·obtain ⟨lvi, svi, hqc, hql, hqs⟩ := pf_at hzY (k := i.toNat) (by omega)
   have hqb := hQb i.toNat
   have hqb1 := hqb.1
   have hRl := Mk.chkR_len rtX (KK.getD j.toNat []) (KK.getD ((j + 1) % 3).toNat []) (QQ.getD i.toNat Mk.pf0)
   refine wp_skip ?_
   refine hK18 _ _ ?_
   clear hK18
   refine wp_seq_k ?_; intro K20 hK20
   refine wp_block ?_
   refine wp_seq_k ?_; intro K21 hK21
   revert hS; revert hF; apply regJ (J := J2 (α0 := Value) (α1 := PH) 214 _ _ _ _ _) #[false, false, false, false, false, false, false, false, false, false, false, false, false, false, false, false, false, false] 18 mixed rfl rfl
   ·intro w hF hS
    refine goW_take 0 _ rfl kQ rfl hF (hS.keep sQ (sQ.n.n.n.n.n)) (q_ld_blkW ty29 0 rfl rfl bQ rfl) ?_
    clear hF; intro a hF
    refine goW_take 1 _ rfl kQ rfl hF (hS.keep sQ zQ) (q_move rfl) ?_
    clear hF; intro a hF
    refine goW_take 2 _ rfl kQ rfl hF (hS.keep sQ zQ) (q_move rfl) ?_
    clear hF; intro a hF
    refine goW_take 3 _ rfl kQ rfl hF (hS.keep sQ zQ) (q_idx_sl ty47 ty9 hzK rfl rfl (by omega)) ?_
    clear hF; intro a hF
    refine goW_take 4 _ rfl kQ rfl hF (hS.keep sQ zQ) (q_ld_S ty9 hzK (.inr (by simp)) rfl rfl (by omega)) ?_
    clear hF; intro a hF
    refine goW_take 5 _ rfl kQ rfl hF (hS.keep sQ zQ) (q_move rfl) ?_
    clear hF; intro a hF
    refine goW_take 6 _ rfl kQ rfl hF (hS.keep sQ zQ) (q_move rfl) ?_
    clear hF; intro a hF
    refine goW_take 7 _ rfl kQ rfl hF (hS.keep sQ zQ) (q_idx_sl ty63 ty54 hzY rfl rfl (by omega)) ?_
    clear hF; intro a hF
    refine goW_take 8 _ rfl kQ rfl hF (hS.keep sQ zQ) (q_ld_pf ty54 hzY (.inr (by simp)) hqc rfl rfl (by omega)) ?_
    clear hF; intro a hF
    refine gQ 9 rfl rfl hF hS rfl (ef_call fn30 rfl (fun w hS => proof_ct (QQ.getD i.toNat Mk.pf0) _ _ (by omega) w (Sl.mono (hS.le (.inr (by simp))) hql) (Sl.mono (hS.le (.inr (by simp))) hqs))) ?_
    clear hF hS; rintro _ _ _ a w ⟨_, _, rfl, rfl, ⟨l_17_9, z_17_9, rfl, hl_17_9, rfl, rfl⟩⟩ hF hS
    refine ⟨⟨iQ, iQ, .inr (hS.keep (sQ.n) zQ), .inr (hS.keep (sQ.n) zQ), .inr (hS.keep (sQ.n) zQ), .inr (hS.keep (sQ.n) zQ), .inr (hS.keep (sQ.n) zQ), .inr (hS.keep (sQ.n) zQ), .inr (hS.keep (sQ.n) (sQ.n.n.n.n.n)), trivial⟩, ?_⟩
    refine gQ 10 rfl rfl hF hS rfl (ef_qt (q_call fn29 rfl (fun w hS => check_ct (QQ.getD i.toNat Mk.pf0) _ _ rtX (KK.getD j.toNat []) (by first | with_reducible assumption | omega) w (Sl.mono (hS.le (.inr (by simp))) hl_17_9) (Sl.mono (hS.le (.inr (by simp))) hqs) (hS.ext _ _ hg1)) (fun _ _ _ h => h))) ?_
    clear hF hS; rintro _ _ _ a w ⟨rfl, rfl, rfl⟩ hF hS
    refine ⟨⟨iQ, iQ, .inr (hS.keep (sQ.n) zQ), .inr (hS.keep (sQ.n) zQ), iQ, iQ, .inr (hS.keep (sQ.n) zQ), .inr (hS.keep (sQ.n) zQ), iQ, trivial⟩, ?_⟩
    refine goW_take 11 _ rfl kQ rfl hF (hS.keep sQ zQ) (q_move rfl) ?_
    clear hF; intro a hF
    refine goW_take 12 _ rfl kQ rfl hF (hS.keep sQ zQ) (q_extract rfl rfl) ?_
    clear hF; intro a hF
    refine goW_take 13 _ rfl kQ rfl hF (hS.keep sQ zQ) (q_extract rfl rfl) ?_
    clear hF; intro a hF
    refine goW_take 14 _ rfl kQ rfl hF (hS.keep sQ zQ) (q_extract rfl rfl) ?_
    clear hF; intro a hF
    refine goW_take 15 _ rfl kQ rfl hF (hS.keep sQ zQ) (q_assign rfl) ?_
    clear hF; intro a hF
    refine goW_take 16 _ rfl kQ rfl hF (hS.keep sQ zQ) (q_assign rfl) ?_
    clear hF; intro a hF
    refine goW_take 17 _ rfl kQ rfl hF (hS.keep sQ zQ) (q_assign rfl) ?_
    clear hF; intro a hF
    exact goW_done kQ (j2_mk l_17_9 z_17_9 ((And.intro hl_17_9 trivial)) (hF.sub (L' := [(15, _), (25, _), (26, _), (27, _), (28, _), (29, _), (30, _), (31, _)]) ⟨rfl, rfl, rfl, rfl, rfl, rfl, rfl, rfl, trivial⟩) hS)
   rintro a w ⟨l_17_9, z_17_9, ⟨hl_17_9, -⟩, hF, hS⟩
   (try dsimp only at hF); (try dsimp only at hS)
   refine hK21 _ _ ?_
   clear hK21
   refine wp_seq_k ?_; intro K22 hK22
   refine regd mixed kQ hF hS (sq rfl (q_ld_blkW ty29 5 rfl rfl bQ rfl) <|
     sq rfl (q_move rfl) <|
     sq rfl (q_move rfl) <|
     sq rfl (q_idx_sl ty47 ty9 hzK rfl rfl (by omega)) <|
     sq rfl (q_ld_S ty9 hzK (.inr (by simp)) rfl rfl (by omega)) <|
     sq rfl (q_move rfl) <|
     sq rfl (q_move rfl) <|
     sq rfl (q_idx_sl ty63 ty54 hzY rfl rfl (by omega)) <|
     sq rfl (q_ld_pf ty54 hzY (.inr (by simp)) hqc rfl rfl (by omega)) <|
     sq rfl (q_call fn31 rfl (fun w hS => rcheck_ct (QQ.getD i.toNat Mk.pf0) _ _ rtX (KK.getD j.toNat []) (by first | with_reducible assumption | omega) w (Sl.mono (hS.le (.inr (by simp))) hql) (Sl.mono (hS.le (.inr (by simp))) hqs) (hS.ext _ _ hg0)) (fun _ _ _ h => h)) <|
     sq rfl (q_move rfl) <|
     sq rfl (q_extract rfl rfl) <|
     sq rfl (q_extract rfl rfl) <|
     sq rfl (q_extract rfl rfl) <|
     sq rfl (q_assign rfl) <|
     sq rfl (q_assign rfl) <|
     sq rfl (q_assign rfl) <|
     sq_end) ?_
   clear hF hS; intro a w hF hS
   refine hK22 _ _ ?_
   clear hK22
   refine wp_seq_k ?_; intro K23 hK23
   revert hS; revert hF; apply regJ (J := J4 (α0 := Value) (α1 := PH) (α2 := Value) (α3 := PH) 214 _ _ _ _ _) #[false, false, false, false, false, false, false, false, false, false, false, false, false, false, false, false, false, false, false, false, false, false] 22 mixed rfl rfl
   ·intro w hF hS
    refine goW_take 0 _ rfl kQ rfl hF (hS.keep sQ (sQ.n.n.n.n.n)) (q_ld_blkW ty29 0 rfl rfl bQ rfl) ?_
    clear hF; intro a hF
    refine goW_take 1 _ rfl kQ rfl hF (hS.keep sQ zQ) (q_move rfl) ?_
    clear hF; intro a hF
    refine goW_take 2 _ rfl kQ rfl hF (hS.keep sQ zQ) (q_move rfl) ?_
    clear hF; intro a hF
    refine goW_take 3 _ rfl kQ rfl hF (hS.keep sQ zQ) (q_idx_sl ty47 ty9 hzK rfl rfl (by omega)) ?_
    clear hF; intro a hF
    refine goW_take 4 _ rfl kQ rfl hF (hS.keep sQ zQ) (q_ld_S ty9 hzK (.inr (by simp)) rfl rfl (by omega)) ?_
    clear hF; intro a hF
    refine goW_take 5 _ rfl kQ rfl hF (hS.keep sQ zQ) (q_move rfl) ?_
    clear hF; intro a hF
    refine goW_take 6 _ rfl kQ rfl hF (hS.keep sQ zQ) (q_move rfl) ?_
    clear hF; intro a hF
    refine goW_take 7 _ rfl kQ rfl hF (hS.keep sQ zQ) (q_addi rfl rfl (by omega)) ?_
    clear hF; intro a hF
    refine goW_take 8 _ rfl kQ rfl hF (hS.keep sQ zQ) (q_remi rfl rfl (by omega)) ?_
    clear hF; intro a hF
    refine goW_take 9 _ rfl kQ rfl hF (hS.keep sQ zQ) (q_idx_sl ty47 ty9 hzK rfl rfl (by omega)) ?_
    clear hF; intro a hF
    refine goW_take 10 _ rfl kQ rfl hF (hS.keep sQ zQ) (q_ld_S ty9 hzK (.inr (by simp)) rfl rfl (by omega)) ?_
    clear hF; intro a hF
    refine goW_take 11 _ rfl kQ rfl hF (hS.keep sQ zQ) (q_move rfl) ?_
    clear hF; intro a hF
    refine goW_take 12 _ rfl kQ rfl hF (hS.keep sQ zQ) (q_move rfl) ?_
    clear hF; intro a hF
    refine goW_take 13 _ rfl kQ rfl hF (hS.keep sQ zQ) (q_idx_sl ty63 ty54 hzY rfl rfl (by omega)) ?_
    clear hF; intro a hF
    refine goW_take 14 _ rfl kQ rfl hF (hS.keep sQ zQ) (q_ld_pf ty54 hzY (.inr (by simp)) hqc rfl rfl (by omega)) ?_
    clear hF; intro a hF
    refine gQ 15 rfl rfl hF hS rfl (ef_call fn30 rfl (fun w hS => proof_ct (QQ.getD i.toNat Mk.pf0) _ _ (by omega) w (Sl.mono (hS.le (.inr (by simp))) hql) (Sl.mono (hS.le (.inr (by simp))) hqs))) ?_
    clear hF hS; rintro _ _ _ a w ⟨_, _, rfl, rfl, ⟨l_19_15, z_19_15, rfl, hl_19_15, rfl, rfl⟩⟩ hF hS
    refine ⟨⟨iQ, iQ, .inr (hS.keep (sQ.n) zQ), .inr (hS.keep (sQ.n) zQ), .inr (hS.keep (sQ.n) zQ), .inr (hS.keep (sQ.n) zQ), .inr (hS.keep (sQ.n) zQ), .inr (hS.keep (sQ.n) zQ), .inr (hS.keep (sQ.n) zQ), .inr (hS.keep (sQ.n) zQ), .inr (hS.keep (sQ.n) zQ), .inr (hS.keep (sQ.n) zQ), .inr (hS.keep (sQ.n) zQ), .inr (hS.keep (sQ.n) zQ), .inr (hS.keep (sQ.n) (sQ.n.n.n.n.n)), trivial⟩, ?_⟩
    refine gQ 16 rfl rfl hF hS rfl (ef_call fn32 rfl (fun w hS => chkr_ct (QQ.getD i.toNat Mk.pf0) _ _ rtX (KK.getD j.toNat []) (KK.getD ((j + 1) % 3).toNat []) (by first | with_reducible assumption | omega) w (Sl.mono (hS.le (.inr (by simp))) hl_19_15) (Sl.mono (hS.le (.inr (by simp))) hqs) (hS.ext _ _ hg1))) ?_
    clear hF hS; rintro _ _ _ a w ⟨_, _, rfl, rfl, ⟨v_19_16_1, z_19_16, hz_19_16, rfl, rfl, rfl⟩⟩ hF hS
    refine ⟨⟨iQ, iQ, .inr (hS.keep (sQ.n.n) zQ), .inr (hS.keep (sQ.n.n) zQ), iQ, iQ, .inr (hS.keep (sQ.n.n) zQ), .inr (hS.keep (sQ.n.n) zQ), .inr (hS.keep (sQ.n.n) zQ), .inr (hS.keep (sQ.n.n) zQ), iQ, iQ, .inr (hS.keep (sQ.n.n) zQ), .inr (hS.keep (sQ.n.n) zQ), iQ, trivial⟩, ?_⟩
    refine goW_take 17 _ rfl kQ rfl hF (hS.keep sQ zQ) (q_move rfl) ?_
    clear hF; intro a hF
    refine goW_take 18 _ rfl kQ rfl hF (hS.keep sQ zQ) (q_extract rfl rfl) ?_
    clear hF; intro a hF
    refine goW_take 19 _ rfl kQ rfl hF (hS.keep sQ zQ) (q_extract rfl rfl) ?_
    clear hF; intro a hF
    refine goW_take 20 _ rfl kQ rfl hF (hS.keep sQ zQ) (q_assign rfl) ?_
    clear hF; intro a hF
    refine goW_take 21 _ rfl kQ rfl hF (hS.keep sQ zQ) (q_assign rfl) ?_
    clear hF; intro a hF
    exact goW_done kQ (j4_mk l_19_15 z_19_15 v_19_16_1 z_19_16 ((And.intro hl_19_15 (And.intro hz_19_16 trivial))) (hF.sub (L' := [(15, _), (25, _), (26, _), (27, _), (28, _), (29, _), (30, _), (31, _), (32, _), (33, _), (34, _), (35, _), (36, _)]) ⟨rfl, rfl, rfl, rfl, rfl, rfl, rfl, rfl, rfl, rfl, rfl, rfl, rfl, trivial⟩) hS)
   rintro a w ⟨l_19_15, z_19_15, v_19_16_1, z_19_16, ⟨hl_19_15, hz_19_16, -⟩, hF, hS⟩
   (try dsimp only at hF); (try dsimp only at hS)
   refine hK23 _ _ ?_
   clear hK23
   refine wp_seq_k ?_; intro K24 hK24
   revert hS; revert hF; apply regJ (J := J2 (α0 := Value) (α1 := PH) 214 _ _ _ _ _) #[false, false, false, false, false, false, false, false, false, false, false, false, false, false, false, false, false, false, false, false, false] 21 mixed rfl rfl
   ·intro w hF hS
    refine goW_take 0 _ rfl kQ rfl hF (hS.keep sQ (sQ.n.n.n.n.n)) (q_ld_blkW ty29 0 rfl rfl bQ rfl) ?_
    clear hF; intro a hF
    refine goW_take 1 _ rfl kQ rfl hF (hS.keep sQ zQ) (q_move rfl) ?_
    clear hF; intro a hF
    refine goW_take 2 _ rfl kQ rfl hF (hS.keep sQ zQ) (q_move rfl) ?_
    clear hF; intro a hF
    refine goW_take 3 _ rfl kQ rfl hF (hS.keep sQ zQ) (q_idx_sl ty47 ty9 hzK rfl rfl (by omega)) ?_
    clear hF; intro a hF
    refine goW_take 4 _ rfl kQ rfl hF (hS.keep sQ zQ) (q_ld_S ty9 hzK (.inr (by simp)) rfl rfl (by omega)) ?_
    clear hF; intro a hF
    refine goW_take 5 _ rfl kQ rfl hF (hS.keep sQ zQ) (q_move rfl) ?_
    clear hF; intro a hF
    refine goW_take 6 _ rfl kQ rfl hF (hS.keep sQ zQ) (q_move rfl) ?_
    clear hF; intro a hF
    refine goW_take 7 _ rfl kQ rfl hF (hS.keep sQ zQ) (q_addi rfl rfl (by omega)) ?_
    clear hF; intro a hF
    refine goW_take 8 _ rfl kQ rfl hF (hS.keep sQ zQ) (q_remi rfl rfl (by omega)) ?_
    clear hF; intro a hF
    refine goW_take 9 _ rfl kQ rfl hF (hS.keep sQ zQ) (q_idx_sl ty47 ty9 hzK rfl rfl (by omega)) ?_
    clear hF; intro a hF
    refine goW_take 10 _ rfl kQ rfl hF (hS.keep sQ zQ) (q_ld_S ty9 hzK (.inr (by simp)) rfl rfl (by omega)) ?_
    clear hF; intro a hF
    refine goW_take 11 _ rfl kQ rfl hF (hS.keep sQ zQ) (q_move rfl) ?_
    clear hF; intro a hF
    refine goW_take 12 _ rfl kQ rfl hF (hS.keep sQ zQ) (q_move rfl) ?_
    clear hF; intro a hF
    refine goW_take 13 _ rfl kQ rfl hF (hS.keep sQ zQ) (q_idx_sl ty63 ty54 hzY rfl rfl (by omega)) ?_
    clear hF; intro a hF
    refine goW_take 14 _ rfl kQ rfl hF (hS.keep sQ zQ) (q_ld_pf ty54 hzY (.inr (by simp)) hqc rfl rfl (by omega)) ?_
    clear hF; intro a hF
    refine gQ 15 rfl rfl hF hS rfl (ef_call fn33 rfl (fun w hS => rchkr_ct (QQ.getD i.toNat Mk.pf0) _ _ rtX (KK.getD j.toNat []) (KK.getD ((j + 1) % 3).toNat []) (by first | with_reducible assumption | omega) w (Sl.mono (hS.le (.inr (by simp))) hql) (Sl.mono (hS.le (.inr (by simp))) hqs) (hS.ext _ _ hg0))) ?_
    clear hF hS; rintro _ _ _ a w ⟨_, _, rfl, rfl, ⟨v_20_15_1, z_20_15, hz_20_15, rfl, rfl, rfl⟩⟩ hF hS
    refine ⟨⟨iQ, iQ, .inr (hS.keep (sQ.n) zQ), .inr (hS.keep (sQ.n) zQ), iQ, iQ, .inr (hS.keep (sQ.n) zQ), .inr (hS.keep (sQ.n) zQ), .inr (hS.keep (sQ.n) zQ), .inr (hS.keep (sQ.n) zQ), iQ, iQ, .inr (hS.keep (sQ.n) zQ), .inr (hS.keep (sQ.n) zQ), iQ, trivial⟩, ?_⟩
    refine goW_take 16 _ rfl kQ rfl hF (hS.keep sQ zQ) (q_move rfl) ?_
    clear hF; intro a hF
    refine goW_take 17 _ rfl kQ rfl hF (hS.keep sQ zQ) (q_extract rfl rfl) ?_
    clear hF; intro a hF
    refine goW_take 18 _ rfl kQ rfl hF (hS.keep sQ zQ) (q_extract rfl rfl) ?_
    clear hF; intro a hF
    refine goW_take 19 _ rfl kQ rfl hF (hS.keep sQ zQ) (q_assign rfl) ?_
    clear hF; intro a hF
    refine goW_take 20 _ rfl kQ rfl hF (hS.keep sQ zQ) (q_assign rfl) ?_
    clear hF; intro a hF
    exact goW_done kQ (j2_mk v_20_15_1 z_20_15 ((And.intro hz_20_15 trivial)) (hF.sub (L' := [(15, _), (25, _), (26, _), (27, _), (28, _), (29, _), (30, _), (31, _), (32, _), (33, _), (34, _), (35, _), (36, _), (37, _), (38, _)]) ⟨rfl, rfl, rfl, rfl, rfl, rfl, rfl, rfl, rfl, rfl, rfl, rfl, rfl, rfl, rfl, trivial⟩) hS)
   rintro a w ⟨v_20_15_1, z_20_15, ⟨hz_20_15, -⟩, hF, hS⟩
   (try dsimp only at hF); (try dsimp only at hS)
   refine hK24 _ _ ?_
   clear hK24
   refine wp_seq_k ?_; intro K25 hK25
   refine regl ?_
   refine wpl_sq hF hS (sq rfl (q_move rfl) <|
     sq rfl (q_move rfl) <|
     sq rfl (q_nf (q_nes rfl rfl) (rfl)) <|
     sq rfl (q_move rfl) <|
     sq_go 191 rfl rfl rfl (q_move rfl) <|
     sq_go 191 rfl rfl rfl (q_move rfl) <|
     sq_go 191 rfl rfl rfl (q_bf (q_net ty4 rfl rfl) (by simp)) <|
     sq rfl (q_pick_f rfl rfl) <|
     sq rfl (q_move rfl) <|
     sq_go 196 rfl rfl rfl (q_move rfl) <|
     sq_go 196 rfl rfl rfl (q_move rfl) <|
     sq_go 196 rfl rfl rfl (q_nf (q_nei rfl rfl) (rfl)) <|
     sq rfl (q_pick_f rfl rfl) <|
     sq rfl (q_move rfl) <|
     sq_go 201 rfl rfl rfl (q_move rfl) <|
     sq_go 201 rfl rfl rfl (q_move rfl) <|
     sq_go 201 rfl rfl rfl (q_nf (q_nei rfl rfl) (rfl)) <|
     sq rfl (q_pick_f rfl rfl) <|
     sq rfl (q_move rfl) <|
     sq_go 206 rfl rfl rfl (q_move rfl) <|
     sq_end) ?_
   clear hF hS; intro a w hF hS
   refine wpl_efg hF hS (wanted_go 206 rfl rfl) rfl (ef_call fn18 rfl (fun w hS => plain_ct _ _ (by omega) w (Sl.mono (hS.le (.inr (by simp))) hz_19_16))) ?_
   clear hF hS; rintro v45 _ _ a w ⟨_, _, rfl, rfl, ⟨z46, hz47, rfl, rfl⟩⟩ hF hS
   replace hS : St _ [_, _, _, _, _, _, _, _, _, _, _, _, _, _, _, _, _, _] [_, _, _, _, _, _] _ := hS
   refine wpl_sq hF hS (sq_go 206 rfl rfl rfl (q_move rfl) <|
     sq_go 206 rfl rfl rfl (q_call fn34 rfl (fun w hS => samel_ct _ _ _ _ w (Sl.mono (hS.le (.inr (by simp))) hz47) (Sl.mono (hS.le (.inr (by simp))) hz_20_15)) (fun _ _ _ h => h)) <|
     sq_go 206 rfl rfl rfl (q_nf (q_not rfl) (by simp)) <|
     sq rfl (q_pick_f rfl rfl) <|
     sq_end) ?_
   clear hF hS; intro a w hF hS
   refine wpList_nil ?_
   refine hK25 _ _ ?_
   clear hK25
   refine wp_if hF rfl (fun h => absurd h (by simp)) (fun _ => ?_)
   refine wp_skip ?_
   refine hK20 _ _ ?_
   clear hK20
   refine reg hF hS (sq rfl (q_move rfl) <|
     sq rfl (q_addi rfl rfl (by omega)) <|
     sq rfl (q_assign rfl) <|
     sq_end) ?_
   clear hF hS; intro a w hF hS
   replace hS := hS.keep (sQ.n.n.n.n.n) sQ
   refine ⟨(j + 1), ?_, ?_, hF.sub ⟨rfl, rfl, rfl, rfl, rfl, trivial⟩, ?_⟩
   ·(try dsimp only); omega
   ·(try dsimp only); omega
   ·exact hS
  ·refine wp_exit ?_
   refine hK16 _ _ ?_
   clear hK16
   refine reg hF hS (sq rfl (q_move rfl) <|
     sq rfl (q_addi rfl rfl (by omega)) <|
     sq rfl (q_assign rfl) <|
     sq_end) ?_
   clear hF hS; intro a w hF hS
   refine ⟨(i + 1), ?_, ?_, hF.sub ⟨rfl, rfl, rfl, rfl, trivial⟩, ?_⟩
   ·(try dsimp only); omega
   ·(try dsimp only); omega
   ·exact hS
 ·refine wp_exit ?_
  refine hK12 _ _ ?_
  clear hK12
  refine wp_seq_k ?_; intro K26 hK26
  refine reg hF hS (sq rfl (q_call fn19 rfl (fun w hS => lives_ct w (hS.ext _ _ hg1)) (fun _ _ _ h => h)) <|
    sq rfl (q_assign rfl) <|
    sq_end) ?_
  clear hF hS; intro a w hF hS
  refine hK26 _ _ ?_
  clear hK26
  refine wp_ret ?_
  exact fn_ret (rs := [.tmp 12]) rfl hF hS (vs := [_]) ⟨rfl, trivial⟩ zQ zQ (rfl)
end Go.Proofs.YtdojfnigffeblaaDoor
