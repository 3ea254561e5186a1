/- A text of a proof over this seat: walks over the program's functions and the plain laws that they need. -/
import Derived.Test.YtdojfnigffeblaaDoorMm14
import Derived.Test.YtdojfnigffeblaaDoorMkA
import Derived.Test.YtdojfnigffeblaaDoorFwD
import Derived.Test.YtdojfnigffeblaaDoorFwB
set_option linter.all false
namespace Go.Proofs.YtdojfnigffeblaaDoor
open Go.Fw
theorem ty63 : Tf Tryd.prog 63 (.slice 54) 1 24 (Value.slice none 0 0) := ⟨Tryd.underlying63, by kernel_rfl⟩
theorem fn23 : FnOk Tryd.prog 23 := ⟨_, Tryd.func23, rfl, by kernel_rfl⟩
theorem fn25 : FnOk Tryd.prog 25 := ⟨_, Tryd.func25, rfl, by kernel_rfl⟩
theorem fn30 : FnOk Tryd.prog 30 := ⟨_, Tryd.func30, rfl, by kernel_rfl⟩

attribute [local irreducible] Sha.sum Sha.mac Sha.ofD Wi.int Wi.ints Wi.bytes Sha.inp Mk.half Lib.compareBytes Mk.frm Mk.rootD Mk.provE Mk.rangE Mk.rootE Mk.chkE Mk.chkR Mk.shown Mk.leavesL Mk.keyL Mk.keyB Mk.hasI Mk.inside Mk.bent Mk.coll Mk.vE Mk.rowD Gu.arnd

set_option maxRecDepth 4000 in
set_option maxHeartbeats 2000000 in
theorem mlaw5_ct (v1 v2 : Value) (l n : List Int) (k m how b also : Int) (hk9 : -9223372036854775808 ≤ k ∧ k ≤ 9223372036854775807) (hm9 : -9223372036854775808 ≤ m ∧ m ≤ 9223372036854775807) (hh9 : -9223372036854775808 ≤ how ∧ how ≤ 9223372036854775807) (hb9 : -9223372036854775808 ≤ b ∧ b ≤ 9223372036854775807) (hs9 : -9223372036854775808 ≤ also ∧ also ≤ 9223372036854775807) (w : World) (hb1 : Sl encI (ph w) v1 l) (hb2 : Sl encI (ph w) v2 n) {fz0 : Nat × Nat} {bt0 : TypeId} (hg0 : w.heap[0]? = some (.cells (Sha.kc.map vw).toArray bt0 fz0)) {fz1 : Nat × Nat} {bt1 : TypeId} (hg1 : w.heap[2]? = some (.cells (Sha.kc.map vw).toArray bt1 fz1)) : Ct Tryd.prog 7 [v1, v2, vi k, vi m, vi how, vi b, vi also] w (fun r _ _ => r = .bool true) := by
 refine fn_enter Tryd.func7 rfl Tryd.ntmps7 (Nat.le_of_ble_eq_true rfl) fun a hF hS => ?_
 obtain ⟨X, hX⟩ : ∃ x, x = Mk.leavesL l := ⟨_, rfl⟩
 have hlbX := Mk.leaves_bd l
 have hvX := Mk.leaves_vE l
 rw [← hX] at hlbX hvX
 obtain ⟨hlnX, hlxX⟩ := hlbX
 obtain ⟨rtX, hrtX⟩ : ∃ x, x = (Mk.rootE X).1 := ⟨_, rfl⟩
 have hrlX : rtX.length = 16 := by rw [hrtX, Mk.rootE_n hvX]; exact Mk.rootD_16 _ _
 have hroX : Mk.rootE X = (rtX, 0) := by rw [hrtX, Mk.rootE_n hvX]
 have hrnX : (Mk.rootE X).1.length = 16 := by rw [← hrtX]; exact hrlX
 obtain ⟨Y, hY⟩ : ∃ x, x = Mk.leavesL n := ⟨_, rfl⟩
 have hlbY := Mk.leaves_bd n
 have hvY := Mk.leaves_vE n
 rw [← hY] at hlbY hvY
 obtain ⟨hlnY, hlxY⟩ := hlbY
 obtain ⟨rtY, hrtY⟩ : ∃ x, x = (Mk.rootE Y).1 := ⟨_, rfl⟩
 have hrlY : rtY.length = 16 := by rw [hrtY, Mk.rootE_n hvY]; exact Mk.rootD_16 _ _
 have hroY : Mk.rootE Y = (rtY, 0) := by rw [hrtY, Mk.rootE_n hvY]
 have hrnY : (Mk.rootE Y).1.length = 16 := by rw [← hrtY]; exact hrlY
 obtain ⟨ka, hka⟩ : ∃ x, x = Mk.keyL X k := ⟨_, rfl⟩
 have hklka : ka.length ≤ 8 := by rw [hka]; exact Nat.le_trans (Mk.keyL_len (fun x hx => (hlxX x hx).1) _) (by omega)
 obtain ⟨kb, hkb⟩ : ∃ x, x = Mk.keyL Y m := ⟨_, rfl⟩
 have hklkb : kb.length ≤ 8 := by rw [hkb]; exact Nat.le_trans (Mk.keyL_len (fun x hx => (hlxY x hx).1) _) (by omega)
 obtain ⟨kc, hkc⟩ : ∃ x, x = Mk.keyL X b := ⟨_, rfl⟩
 have hklkc : kc.length ≤ 8 := by rw [hkc]; exact Nat.le_trans (Mk.keyL_len (fun x hx => (hlxX x hx).1) _) (by omega)
 have hbX3 : ∀ x ∈ X, x.1.length ≤ 3 ∧ x.2.length ≤ 3 := fun x hx => by have := hlxX x hx; omega
 have hbY3 : ∀ x ∈ Y, x.1.length ≤ 3 ∧ x.2.length ≤ 3 := fun x hx => by have := hlxY x hx; omega
 obtain ⟨pa, hpa⟩ : ∃ x, x = (Mk.provE X ka).1 := ⟨_, rfl⟩
 obtain ⟨pb, hpb⟩ : ∃ x, x = (Mk.rangE Y ka kb).1 := ⟨_, rfl⟩
 obtain ⟨Ba, hBa⟩ : ∃ x, x = Mk.bent pa how b := ⟨_, rfl⟩
 obtain ⟨Bb, hBb⟩ : ∃ x, x = Mk.bent pb also b := ⟨_, rfl⟩
 obtain ⟨Bc, hBc⟩ : ∃ x, x = Mk.bent Ba also how := ⟨_, rfl⟩
 have hsa : Mk.smP pa 11 3 := by rw [hpa]; exact Mk.smP_mono (Mk.prov_sm hbX3 ka) hlnX (Nat.le_refl _)
 have hsb : Mk.smP pb 11 3 := by rw [hpb]; exact Mk.smP_mono (Mk.rang_sm hbY3 ka kb) hlnY (Nat.le_refl _)
 have hsBa := Mk.bent_sm hsa how b
 rw [← hBa] at hsBa
 have hsBb := Mk.bent_sm hsb also b
 rw [← hBb] at hsBb
 have hsBc := Mk.bent_sm hsBa also how
 rw [← hBc] at hsBc
 obtain ⟨QQ, hQQ⟩ : ∃ x, x = [pa, pb, Ba, Bb, Bc] := ⟨_, rfl⟩
 obtain ⟨KK, hKK⟩ : ∃ x, x = [ka, kb, kc] := ⟨_, rfl⟩
 have hQn : QQ.length = 5 := by rw [hQQ]; rfl
 have hKn : KK.length = 3 := by rw [hKK]; rfl
 have hQb : ∀ j, Mk.smP (QQ.getD j Mk.pf0) 20 20 := by
  rw [hQQ]
  exact Mk.five_sm (Mk.smP_mono hsa (by decide) (by decide)) (Mk.smP_mono hsb (by decide) (by decide)) (Mk.smP_mono hsBa (by decide) (by decide)) (Mk.smP_mono hsBb (by decide) (by decide)) (Mk.smP_mono hsBc (by decide) (by decide))
 have hX4 : ∀ x ∈ X, x.1.length ≤ 400 ∧ x.2.length ≤ 400 := fun x hx => by have := hlxX x hx; omega
 refine wp_seq_k ?_; intro K1 hK1
 refine reg hF hS (sq rfl (q_assign rfl) <|
   sq_end) ?_
 clear hF hS; intro a w hF hS
 refine hK1 _ _ ?_
 clear hK1
 refine wp_seq_k ?_; intro K2 hK2
 refine regl ?_
 refine wpl_sq hF hS (sq rfl (q_move rfl) <|
   sq_end) ?_
 clear hF hS; intro a w hF hS
 refine wpl_ef hF hS rfl (ef_call fn10 rfl (fun w hS => leaves_ct _ _ w (Sl.mono (hS.le zin0) hb1))) ?_
 clear hF hS; rintro v1 _ _ a w ⟨_, _, rfl, rfl, ⟨z2, hz3, rfl, rfl⟩⟩ hF hS
 (try rw [← hX] at hF); rw [← hX] at hz3
 replace hS : St _ [_] [] _ := hS
 refine wpl_sq hF hS (sq rfl (q_assign rfl) <|
   sq_end) ?_
 clear hF hS; intro a w hF hS
 refine wpList_nil ?_
 refine hK2 _ _ ?_
 clear hK2
 refine wp_seq_k ?_; intro K3 hK3
 refine regl ?_
 refine wpl_sq hF hS (sq rfl (q_move rfl) <|
   sq_end) ?_
 clear hF hS; intro a w hF hS
 refine wpl_ef hF hS rfl (ef_call fn10 rfl (fun w hS => leaves_ct _ _ w (Sl.mono (hS.le zin0) hb2))) ?_
 clear hF hS; rintro v4 _ _ a w ⟨_, _, rfl, rfl, ⟨z5, hz6, rfl, rfl⟩⟩ hF hS
 (try rw [← hY] at hF); rw [← hY] at hz6
 replace hS : St _ [_, _] [] _ := hS
 refine wpl_sq hF hS (sq rfl (q_assign rfl) <|
   sq_end) ?_
 clear hF hS; intro a w hF hS
 refine wpList_nil ?_
 refine hK3 _ _ ?_
 clear hK3
 refine wp_seq_k ?_; intro K4 hK4
 refine regl ?_
 refine wpl_sq hF hS (sq rfl (q_move rfl) <|
   sq_end) ?_
 clear hF hS; intro a w hF hS
 refine wpl_ef hF hS rfl (ef_call fn13 rfl (fun w hS => own_ct _ _ (by first | with_reducible assumption | omega | (simp; omega)) w (Sl.mono (hS.le (.inr (by simp))) hz3))) ?_
 clear hF hS; rintro v7 _ _ a w ⟨_, _, rfl, rfl, ⟨z8, hz9, rfl, rfl⟩⟩ hF hS
 replace hS : St _ [_, _, _] [] _ := hS
 refine wpl_sq hF hS (sq rfl (q_call fn12 rfl (fun w hS => mroot_ct _ _ w (Sl.mono (hS.le (.inr (by simp))) hz9) (hS.ext _ _ hg1)) (fun _ _ _ h => h)) <|
   sq rfl (q_move rfl) <|
   sq rfl (q_extract rfl rfl) <|
   sq rfl (q_extract rfl rfl) <|
   sq_end) ?_
 clear hF hS; intro a w hF hS
 refine wpl_ef hF hS rfl (ef_allocA ty29) ?_
 clear hF hS; rintro _ _ _ a w ⟨b10, rfl, rfl, rfl⟩ hF hS
 rw [show List.replicate 16 (Value.int .u8 0) = (List.replicate 16 (0 : UInt8)).map vb from by rw [List.map_replicate] <;> rfl] at hS
 refine wpl_ef hF hS rfl (ef_storeW ty29 0 rfl rfl rfl rfl bQ oQ bQ) ?_
 clear hF hS; rintro _ _ _ a w ⟨rfl, rfl, rfl⟩ hF hS
 replace hS : St _ [_, _, _] [_] _ := hS
 refine wpl_sq hF hS (sq rfl (q_assign rfl) <|
   sq_end) ?_
 clear hF hS; intro a w hF hS
 refine wpList_nil ?_
 rw [hroX] at hF hS; (try dsimp only at hF); (try dsimp only at hS)
 refine hK4 _ _ ?_
 clear hK4
 refine wp_seq_k ?_; intro K5 hK5
 refine wp_seq_k ?_; intro K6 hK6
 refine reg hF hS (sq rfl (q_move rfl) <|
   sq rfl (q_nei rfl rfl) <|
   sq_end) ?_
 clear hF hS; intro a w hF hS
 refine hK6 _ _ ?_
 clear hK6
 refine wp_ifn hF rfl (fun hc1 => ?_) (fun hc1 => ?_)
 ·exfalso; simp at hc1
 ·refine wp_skip ?_
  refine hK5 _ _ ?_
  clear hK5
  refine wp_seq_k ?_; intro K7 hK7
  refine regl ?_
  refine wpl_sq hF hS (sq rfl (q_move rfl) <|
    sq rfl (q_move rfl) <|
    sq rfl (q_move rfl) <|
    sq rfl (q_call fn20 rfl (fun w hS => keyL_ct _ _ _ (by omega) (fun x hx => by have := hlxX x hx; omega) (by omega) w (Sl.mono (hS.le (.inr (by simp))) hz3)) (fun _ _ _ h => h)) <|
    sq_end) ?_
  clear hF hS; intro a w hF hS
  refine wpl_ef hF hS rfl (ef_call fn23 rfl (fun w hS => rprove_ct _ _ (Mk.keyL X k) w (Sl.mono (hS.le (.inr (by simp))) hz3) (hS.ext _ _ hg0))) ?_
  clear hF hS; rintro _ _ _ a w ⟨_, _, rfl, rfl, ⟨l12, s13, z14, rfl, hl15, hs16, rfl, rfl⟩⟩ hF hS
  rw [← hka] at hF hl15 hs16
  (try rw [← hpa] at hF); rw [← hpa] at hl15 hs16
  replace hS : St _ [_, _, _, _] [_] _ := hS
  refine wpl_sq hF hS (sq rfl (q_move rfl) <|
    sq rfl (q_extract rfl rfl) <|
    sq rfl (q_extract rfl rfl) <|
    sq_end) ?_
  clear hF hS; intro a w hF hS
  refine wpl_ef hF hS rfl (ef_allocA ty54) ?_
  clear hF hS; rintro _ _ _ a w ⟨b17, rfl, rfl, rfl⟩ hF hS
  refine wpl_ef hF hS rfl (ef_storeW ty54 0 rfl rfl rfl rfl bQ (oc_cons rfl (oc_cons rfl (oc_cons (sl_one' hl15) (oc_cons (sl_one' hs16) oc_nil)))) bQ) ?_
  clear hF hS; rintro _ _ _ a w ⟨rfl, rfl, rfl⟩ hF hS
  replace hS : St _ [_, _, _, _] [_, _] _ := hS
  refine wpl_sq hF hS (sq rfl (q_assign rfl) <|
    sq_end) ?_
  clear hF hS; intro a w hF hS
  refine wpList_nil ?_
  refine hK7 _ _ ?_
  clear hK7
  refine wp_seq_k ?_; intro K8 hK8
  refine regl ?_
  refine wpl_sq hF hS (sq rfl (q_move rfl) <|
    sq rfl (q_move rfl) <|
    sq rfl (q_move rfl) <|
    sq rfl (q_call fn20 rfl (fun w hS => keyL_ct _ _ _ (by omega) (fun x hx => by have := hlxX x hx; omega) (by omega) w (Sl.mono (hS.le (.inr (by simp))) hz3)) (fun _ _ _ h => h)) <|
    sq rfl (q_move rfl) <|
    sq rfl (q_move rfl) <|
    sq rfl (q_call fn20 rfl (fun w hS => keyL_ct _ _ _ (by omega) (fun x hx => by have := hlxY x hx; omega) (by omega) w (Sl.mono (hS.le (.inr (by simp))) hz6)) (fun _ _ _ h => h)) <|
    sq_end) ?_
  clear hF hS; intro a w hF hS
  refine wpl_ef hF hS rfl (ef_call fn25 rfl (fun w hS => rrange_ct _ _ (Mk.keyL X k) (Mk.keyL Y m) w (Sl.mono (hS.le (.inr (by simp))) hz6) (hS.ext _ _ hg0))) ?_
  clear hF hS; rintro _ _ _ a w ⟨_, _, rfl, rfl, ⟨l19, s20, z21, rfl, hl22, hs23, rfl, rfl⟩⟩ hF hS
  rw [← hka] at hF hl22 hs23
  rw [← hkb] at hF hl22 hs23
  (try rw [← hpb] at hF); rw [← hpb] at hl22 hs23
  replace hS : St _ [_, _, _, _, _] [_, _] _ := hS
  refine wpl_sq hF hS (sq rfl (q_move rfl) <|
    sq rfl (q_extract rfl rfl) <|
    sq rfl (q_extract rfl rfl) <|
    sq_end) ?_
  clear hF hS; intro a w hF hS
  refine wpl_ef hF hS rfl (ef_allocA ty54) ?_
  clear hF hS; rintro _ _ _ a w ⟨b24, rfl, rfl, rfl⟩ hF hS
  refine wpl_ef hF hS rfl (ef_storeW ty54 0 rfl rfl rfl rfl bQ (oc_cons rfl (oc_cons rfl (oc_cons (sl_one' hl22) (oc_cons (sl_one' hs23) oc_nil)))) bQ) ?_
  clear hF hS; rintro _ _ _ a w ⟨rfl, rfl, rfl⟩ hF hS
  replace hS : St _ [_, _, _, _, _] [_, _, _] _ := hS
  refine wpl_sq hF hS (sq rfl (q_assign rfl) <|
    sq_end) ?_
  clear hF hS; intro a w hF hS
  refine wpList_nil ?_
  refine hK8 _ _ ?_
  clear hK8
  refine wp_seq_k ?_; intro K9 hK9
  revert hS; revert hF; apply regJ (J := J13 (α0 := Value) (α1 := Value) (α2 := PH) (α3 := Value) (α4 := Value) (α5 := PH) (α6 := Value) (α7 := Value) (α8 := PH) (α9 := Value) (α10 := Value) (α11 := PH) (α12 := Value) 207 _ _ _ _ _) #[false, false, false, false, false, false, false, false, false, false, false, false, false, false, false, false, false, false, false] 19 mixed rfl rfl
  ·intro w hF hS
   refine goW_take 0 _ rfl kQ rfl hF (hS.keep sQ (zQ.k.n)) (q_ld_blkW ty54 0 rfl rfl bQ rfl) ?_
   clear hF; intro a hF
   refine goW_take 1 _ rfl kQ rfl hF (hS.keep sQ (zQ.k)) (q_ld_blkW ty54 0 rfl rfl bQ rfl) ?_
   clear hF; intro a hF
   refine goW_take 2 _ rfl kQ rfl hF (hS.keep sQ (zQ.k.n)) (q_ld_blkW ty54 0 rfl rfl bQ rfl) ?_
   clear hF; intro a hF
   refine goW_take 3 _ rfl kQ rfl hF (hS.keep sQ zQ) (q_move rfl) ?_
   clear hF; intro a hF
   refine goW_take 4 _ rfl kQ rfl hF (hS.keep sQ zQ) (q_move rfl) ?_
   clear hF; intro a hF
   refine goW_take 6 _ rfl kQ rfl hF (hS.keep sQ (zQ.k)) (q_ld_blkW ty54 0 rfl rfl bQ rfl) ?_
   clear hF; intro a hF
   refine goW_take 7 _ rfl kQ rfl hF (hS.keep sQ zQ) (q_move rfl) ?_
   clear hF; intro a hF
   refine goW_take 8 _ rfl kQ rfl hF (hS.keep sQ zQ) (q_move rfl) ?_
   clear hF; intro a hF
   refine goW_take 10 _ rfl kQ rfl hF (hS.keep sQ (zQ.k.n)) (q_ld_blkW ty54 0 rfl rfl bQ rfl) ?_
   clear hF; intro a hF
   refine goW_take 11 _ rfl kQ rfl hF (hS.keep sQ zQ) (q_move rfl) ?_
   clear hF; intro a hF
   refine goW_take 12 _ rfl kQ rfl hF (hS.keep sQ zQ) (q_move rfl) ?_
   clear hF; intro a hF
   refine goW_take 14 _ rfl kQ rfl hF (hS.keep sQ zQ) (q_move rfl) ?_
   clear hF; intro a hF
   refine goW_take 15 _ rfl kQ rfl hF (hS.keep sQ zQ) (q_move rfl) ?_
   clear hF; intro a hF
   refine gQ 5 rfl rfl hF hS rfl (ef_call fn28 rfl (fun w hS => bent_ct pa _ _ _ _ (by omega) (by omega) (Mk.smP_mono hsa (by decide) (by decide)) w (Sl.mono (hS.le (.inr (by simp))) hl15) (Sl.mono (hS.le (.inr (by simp))) hs16))) ?_
   clear hF hS; rintro _ _ _ a w ⟨_, _, rfl, rfl, ⟨l_8_5, s_8_5, z_8_5, rfl, hl_8_5, hs_8_5, rfl, rfl⟩⟩ hF hS
   rw [← hBa] at hF hl_8_5 hs_8_5
   replace hS : St _ [_, _, _, _, _, _] [_, _, _] _ := hS
   refine ⟨⟨.inr (hS.keep (sQ.n) zQ), .inr (hS.keep (sQ.n) zQ), .inr (hS.keep (sQ.n) zQ), .inr (hS.keep (sQ.n) zQ), .inr (hS.keep (sQ.n) (zQ.k.n)), .inr (hS.keep (sQ.n) zQ), .inr (hS.keep (sQ.n) zQ), .inr (hS.keep (sQ.n) (zQ.k)), iQ, iQ, iQ, .inr (hS.keep (sQ.n) (zQ.k)), .inr (hS.keep (sQ.n) (zQ.k.n)), trivial⟩, ?_⟩
   refine gQ 9 rfl rfl hF hS rfl (ef_call fn28 rfl (fun w hS => bent_ct pb _ _ _ _ (by omega) (by omega) (Mk.smP_mono hsb (by decide) (by decide)) w (Sl.mono (hS.le (.inr (by simp))) hl22) (Sl.mono (hS.le (.inr (by simp))) hs23))) ?_
   clear hF hS; rintro _ _ _ a w ⟨_, _, rfl, rfl, ⟨l_8_9, s_8_9, z_8_9, rfl, hl_8_9, hs_8_9, rfl, rfl⟩⟩ hF hS
   rw [← hBb] at hF hl_8_9 hs_8_9
   replace hS : St _ [_, _, _, _, _, _, _] [_, _, _] _ := hS
   refine ⟨⟨.inr (hS.keep (sQ.n.n) zQ), .inr (hS.keep (sQ.n.n) zQ), .inr (hS.keep (sQ.n.n) zQ), .inr (hS.keep (sQ.n.n) zQ), .inr (hS.keep (sQ.n.n) (zQ.k.n)), iQ, iQ, iQ, iQ, iQ, iQ, .inr (hS.keep (sQ.n.n) (zQ.k)), .inr (hS.keep (sQ.n.n) (zQ.k.n)), trivial⟩, ?_⟩
   refine gQ 13 rfl rfl hF hS rfl (ef_call fn28 rfl (fun w hS => bent_ct pa _ _ _ _ (by omega) (by omega) (Mk.smP_mono hsa (by decide) (by decide)) w (Sl.mono (hS.le (.inr (by simp))) hl15) (Sl.mono (hS.le (.inr (by simp))) hs16))) ?_
   clear hF hS; rintro _ _ _ a w ⟨_, _, rfl, rfl, ⟨l_8_13, s_8_13, z_8_13, rfl, hl_8_13, hs_8_13, rfl, rfl⟩⟩ hF hS
   rw [← hBa] at hF hl_8_13 hs_8_13
   replace hS : St _ [_, _, _, _, _, _, _, _] [_, _, _] _ := hS
   refine ⟨⟨.inr (hS.keep (sQ.n.n.n) zQ), .inr (hS.keep (sQ.n.n.n) zQ), iQ, iQ, iQ, iQ, iQ, iQ, iQ, iQ, iQ, .inr (hS.keep (sQ.n.n.n) (zQ.k)), .inr (hS.keep (sQ.n.n.n) (zQ.k.n)), trivial⟩, ?_⟩
   refine gQ 16 rfl rfl hF hS rfl (ef_call fn28 rfl (fun w hS => bent_ct Ba _ _ _ _ (by omega) (by omega) (Mk.smP_mono hsBa (by decide) (by decide)) w (Sl.mono (hS.le (.inr (by simp))) hl_8_13) (Sl.mono (hS.le (.inr (by simp))) hs_8_13))) ?_
   clear hF hS; rintro _ _ _ a w ⟨_, _, rfl, rfl, ⟨l_8_16, s_8_16, z_8_16, rfl, hl_8_16, hs_8_16, rfl, rfl⟩⟩ hF hS
   rw [← hBc] at hF hl_8_16 hs_8_16
   replace hS : St _ [_, _, _, _, _, _, _, _, _] [_, _, _] _ := hS
   refine ⟨⟨iQ, iQ, iQ, iQ, iQ, iQ, iQ, iQ, iQ, iQ, iQ, .inr (hS.keep (sQ.n.n.n.n) (zQ.k)), .inr (hS.keep (sQ.n.n.n.n) (zQ.k.n)), trivial⟩, ?_⟩
   refine gQ 17 rfl rfl hF hS rfl (ef_bsliceC ty63 ty54 [[_, _, _, _], [_, _, _, _], [_, _, _, _], [_, _, _, _], [_, _, _, _]] rfl rfl (by simp) (oc2_cons (oc_cons rfl (oc_cons rfl (oc_cons (sl_one' hl15) (oc_cons (sl_one' hs16) oc_nil)))) (oc2_cons (oc_cons rfl (oc_cons rfl (oc_cons (sl_one' hl22) (oc_cons (sl_one' hs23) oc_nil)))) (oc2_cons (oc_cons rfl (oc_cons rfl (oc_cons (sl_one' hl_8_5) (oc_cons (sl_one' hs_8_5) oc_nil)))) (oc2_cons (oc_cons rfl (oc_cons rfl (oc_cons (sl_one' hl_8_9) (oc_cons (sl_one' hs_8_9) oc_nil)))) (oc2_cons (oc_cons rfl (oc_cons rfl (oc_cons (sl_one' hl_8_16) (oc_cons (sl_one' hs_8_16) oc_nil)))) oc2_nil))))) (by decide) rfl rfl) ?_
   clear hF hS; rintro v_8_17 _ _ a w ⟨rfl, rfl⟩ hF hS
   refine ⟨⟨iQ, iQ, iQ, iQ, iQ, iQ, iQ, iQ, iQ, iQ, iQ, iQ, iQ, trivial⟩, ?_⟩
   refine goW_take 18 _ rfl kQ rfl hF (hS.keep sQ zQ) (q_assign rfl) ?_
   clear hF; intro a hF
   exact goW_done kQ (j13_mk l_8_5 s_8_5 z_8_5 l_8_9 s_8_9 z_8_9 l_8_13 s_8_13 z_8_13 l_8_16 s_8_16 z_8_16 v_8_17 ((And.intro hl_8_5 (And.intro hs_8_5 (And.intro hl_8_9 (And.intro hs_8_9 (And.intro hl_8_13 (And.intro hs_8_13 (And.intro hl_8_16 (And.intro hs_8_16 trivial))))))))) (hF.sub (L' := [(2, _), (3, _), (5, _), (15, _), (16, _), (17, _), (23, _)]) ⟨rfl, rfl, rfl, rfl, rfl, rfl, rfl, trivial⟩) hS)
  rintro a w ⟨l_8_5, s_8_5, z_8_5, l_8_9, s_8_9, z_8_9, l_8_13, s_8_13, z_8_13, l_8_16, s_8_16, z_8_16, v_8_17, ⟨hl_8_5, hs_8_5, hl_8_9, hs_8_9, hl_8_13, hs_8_13, hl_8_16, hs_8_16, -⟩, hF, hS⟩
  (try dsimp only at hF); (try dsimp only at hS)
  replace hS := hS.zone00
  replace hS : St _ [_, _, _, _, _, _, _, _, _, _] [_, _, _, _] _ := hS
  obtain ⟨zu, hzu, hS⟩ := hS.union
  obtain ⟨zY, hzY, hS⟩ := St.freezeE encP (z' := zu) (xs := [pa, pb, Ba, Bb, Bc]) hS (by simp) rfl (by decide) ⟨⟨_, _, rfl, Sl.mono (hzu _ (by simp)) hl15, Sl.mono (hzu _ (by simp)) hs16⟩, ⟨_, _, rfl, Sl.mono (hzu _ (by simp)) hl22, Sl.mono (hzu _ (by simp)) hs23⟩, ⟨_, _, rfl, Sl.mono (hzu _ (by simp)) hl_8_5, Sl.mono (hzu _ (by simp)) hs_8_5⟩, ⟨_, _, rfl, Sl.mono (hzu _ (by simp)) hl_8_9, Sl.mono (hzu _ (by simp)) hs_8_9⟩, ⟨_, _, rfl, Sl.mono (hzu _ (by simp)) hl_8_16, Sl.mono (hzu _ (by simp)) hs_8_16⟩, trivial⟩
  rw [← hQQ] at hzY
  replace hS : St _ [_, _, _, _, _, _, _, _, _, _, _, _] [_, _, _] _ := hS
  refine hK9 _ _ ?_
  clear hK9
  refine wp_seq_k ?_; intro K10 hK10
  refine regl ?_
  refine wpl_sq hF hS (sq rfl (q_move rfl) <|
    sq rfl (q_move rfl) <|
    sq rfl (q_call fn20 rfl (fun w hS => keyL_ct _ _ _ (by omega) (fun x hx => by have := hlxX x hx; omega) (by omega) w (Sl.mono (hS.le (.inr (by simp))) hz3)) (fun _ _ _ h => h)) <|
    sq rfl (q_move rfl) <|
    sq rfl (q_move rfl) <|
    sq rfl (q_call fn20 rfl (fun w hS => keyL_ct _ _ _ (by omega) (fun x hx => by have := hlxY x hx; omega) (by omega) w (Sl.mono (hS.le (.inr (by simp))) hz6)) (fun _ _ _ h => h)) <|
    sq rfl (q_move rfl) <|
    sq rfl (q_move rfl) <|
    sq rfl (q_call fn20 rfl (fun w hS => keyL_ct _ _ _ (by omega) (fun x hx => by have := hlxX x hx; omega) (by omega) w (Sl.mono (hS.le (.inr (by simp))) hz3)) (fun _ _ _ h => h)) <|
    sq_end) ?_
  clear hF hS; intro a w hF hS
  refine wpl_ef hF hS rfl (ef_bsliceA ty47 ty9 rfl rfl oQ (by decide) rfl rfl) ?_
  clear hF hS; rintro v25 _ _ a w ⟨rfl, rfl⟩ hF hS
  replace hS : St _ [_, _, _, _, _, _, _, _, _, _, _, _] [_, _, _, _] _ := hS
  refine wpl_sq hF hS (sq rfl (q_assign rfl) <|
    sq_end) ?_
  clear hF hS; intro a w hF hS
  refine wpList_nil ?_
  (try rw [← hka, ← hkb, ← hkc] at hS)
  obtain ⟨zK, hzK, hS⟩ := St.freezeV (h0 := fun _ => rfl) (f := vs) (p := fun s => s.length ≤ 140737488355328) (xs := [ka, kb, kc]) hS (by first | rfl | (simp; done)) (by decide) (Mk.three_k (by omega) (by omega) (by omega))
  rw [← hKK] at hzK
  replace hS : St _ [_, _, _, _, _, _, _, _, _, _, _, _, _] [_, _, _] _ := hS
  refine hK10 _ _ ?_
  clear hK10
  refine wp_seq_k ?_; intro K11 hK11
  refine wp_seq_k ?_; intro K12 hK12
  refine reg hF hS (sq rfl (q_assign rfl) <|
    sq_end) ?_
  clear hF hS; intro a w hF hS
  refine hK12 _ _ ?_
  clear hK12
  refine wp_block ?_
  obtain ⟨hs0, hhs0, hS⟩ : ∃ h, h = _ ∧ St _ _ h _ := ⟨_, rfl, hS⟩
  refine wp_loopx (γ := Int) (0) (fun (i : Int) => [(25, vi i)]) [(15, _), (17, _), (23, _), (24, _)] (fun (i : Int) => hs0) (fun (i : Int) => 0 ≤ i ∧ i ≤ 5) (fun (i : Int) => (5 - i).toNat) (hF.sub ⟨rfl, rfl, rfl, rfl, rfl, trivial⟩) (by subst hhs0; exact hS) (by exact ⟨Int.le_refl _, by omega⟩) ?_
  clear hF hS; rintro i a w hfact hF hS
  subst hhs0; (try dsimp only at hfact); (try dsimp only at hF); (try dsimp only at hS)
  obtain ⟨hi0, hi1⟩ := hfact
  replace hS : St _ [_, _, _, _, _, _, _, _, _, _, _, _, _] [_, _, _] _ := hS
  refine wp_seq_k ?_; intro K13 hK13
  refine wp_seq_k ?_; intro K14 hK14
  refine reg hF hS (sq rfl (q_move rfl) <|
    sq rfl (q_move rfl) <|
    sq rfl (q_len_sl ty63 hzY rfl) <|
    sq rfl (q_lti rfl rfl) <|
    sq_end) ?_
  clear hF hS; intro a w hF hS
  refine hK14 _ _ ?_
  clear hK14
  refine wp_ifd hF rfl (fun hc2 => ?_) (fun hc2 => ?_)
  ·refine wp_skip ?_
   refine hK13 _ _ ?_
   clear hK13
   refine wp_seq_k ?_; intro K15 hK15
   refine wp_block ?_
   refine wp_seq_k ?_; intro K16 hK16
   refine reg hF hS (sq rfl (q_assign rfl) <|
     sq_end) ?_
   clear hF hS; intro a w hF hS
   refine hK16 _ _ ?_
   clear hK16
   refine wp_block ?_
   obtain ⟨hs0, hhs0, hS⟩ : ∃ h, h = _ ∧ St _ _ h _ := ⟨_, rfl, hS⟩
   refine wp_loopx (γ := Int) (0) (fun (j : Int) => [(26, vi j)]) [(15, _), (17, _), (23, _), (24, _), (25, _)] (fun (j : Int) => hs0) (fun (j : Int) => 0 ≤ j ∧ j ≤ 3) (fun (j : Int) => (3 - j).toNat) (hF.sub ⟨rfl, rfl, rfl, rfl, rfl, rfl, trivial⟩) (by subst hhs0; exact hS) (by exact ⟨Int.le_refl _, by omega⟩) ?_
   clear hF hS; rintro j a w hfact hF hS
   subst hhs0; (try dsimp only at hfact); (try dsimp only at hF); (try dsimp only at hS)
   obtain ⟨hj0, hj1⟩ := hfact
   replace hS : St _ [_, _, _, _, _, _, _, _, _, _, _, _, _] [_, _, _] _ := hS
   refine wp_seq_k ?_; intro K17 hK17
   refine wp_seq_k ?_; intro K18 hK18
   refine reg hF hS (sq rfl (q_move rfl) <|
     sq rfl (q_move rfl) <|
     sq rfl (q_len_sl ty47 hzK rfl) <|
     sq rfl (q_lti rfl rfl) <|
     sq_end) ?_
   clear hF hS; intro a w hF hS
   refine hK18 _ _ ?_
   clear hK18
   refine wp_ifd hF rfl (fun hc3 => ?_) (fun hc3 => ?_)
   ·obtain ⟨lvi, svi, hqc, hql, hqs⟩ := pf_at hzY (k := i.toNat) (by omega)
    have hqb := hQb i.toNat
    have hqb1 := hqb.1
    have hcE : Mk.chkE (Mk.rootE X).1 (KK.getD j.toNat []) (QQ.getD i.toNat Mk.pf0) = ((Mk.chkE rtX (KK.getD j.toNat []) (QQ.getD i.toNat Mk.pf0)).1, (Mk.chkE rtX (KK.getD j.toNat []) (QQ.getD i.toNat Mk.pf0)).2.1, (Mk.chkE rtX (KK.getD j.toNat []) (QQ.getD i.toNat Mk.pf0)).2.2) := by rw [← hrtX]
    have hRl := Mk.chkR_len rtX (KK.getD j.toNat []) (KK.getD ((j + 1) % 3).toNat []) (QQ.getD i.toNat Mk.pf0)
    refine wp_skip ?_
    refine hK17 _ _ ?_
    clear hK17
    refine wp_seq_k ?_; intro K19 hK19
    refine wp_block ?_
    refine wp_seq_k ?_; intro K20 hK20
    revert hS; revert hF; apply regJ (J := J2 (α0 := Value) (α1 := PH) 207 _ _ _ _ _) #[false, false, false, false, false, false, false, false, false, false, false, false, false, false, false, false, false, false] 18 mixed rfl rfl
    ·intro w hF hS
     refine goW_take 0 _ rfl kQ rfl hF (hS.keep sQ (sQ.n.n)) (q_ld_blkW ty29 0 rfl rfl bQ rfl) ?_
     clear hF; intro a hF
     refine goW_take 1 _ rfl kQ rfl hF (hS.keep sQ zQ) (q_move rfl) ?_
     clear hF; intro a hF
     refine goW_take 2 _ rfl kQ rfl hF (hS.keep sQ zQ) (q_move rfl) ?_
     clear hF; intro a hF
     refine goW_take 3 _ rfl kQ rfl hF (hS.keep sQ zQ) (q_idx_sl ty47 ty9 hzK rfl rfl (by omega)) ?_
     clear hF; intro a hF
     refine goW_take 4 _ rfl kQ rfl hF (hS.keep sQ zQ) (q_ld_S ty9 hzK (.inr (by simp)) rfl rfl (by omega)) ?_
     clear hF; intro a hF
     refine goW_take 5 _ rfl kQ rfl hF (hS.keep sQ zQ) (q_move rfl) ?_
     clear hF; intro a hF
     refine goW_take 6 _ rfl kQ rfl hF (hS.keep sQ zQ) (q_move rfl) ?_
     clear hF; intro a hF
     refine goW_take 7 _ rfl kQ rfl hF (hS.keep sQ zQ) (q_idx_sl ty63 ty54 hzY rfl rfl (by omega)) ?_
     clear hF; intro a hF
     refine goW_take 8 _ rfl kQ rfl hF (hS.keep sQ zQ) (q_ld_pf ty54 hzY (.inr (by simp)) hqc rfl rfl (by omega)) ?_
     clear hF; intro a hF
     refine gQ 9 rfl rfl hF hS rfl (ef_call fn30 rfl (fun w hS => proof_ct (QQ.getD i.toNat Mk.pf0) _ _ (by omega) w (Sl.mono (hS.le (.inr (by simp))) hql) (Sl.mono (hS.le (.inr (by simp))) hqs))) ?_
     clear hF hS; rintro _ _ _ a w ⟨_, _, rfl, rfl, ⟨l_16_9, z_16_9, rfl, hl_16_9, rfl, rfl⟩⟩ hF hS
     refine ⟨⟨iQ, iQ, .inr (hS.keep (sQ.n) zQ), .inr (hS.keep (sQ.n) zQ), .inr (hS.keep (sQ.n) zQ), .inr (hS.keep (sQ.n) zQ), .inr (hS.keep (sQ.n) zQ), .inr (hS.keep (sQ.n) zQ), .inr (hS.keep (sQ.n) (sQ.n.n)), trivial⟩, ?_⟩
     refine gQ 10 rfl rfl hF hS rfl (ef_qt (q_call fn29 rfl (fun w hS => check_ct (QQ.getD i.toNat Mk.pf0) _ _ rtX (KK.getD j.toNat []) (by first | with_reducible assumption | omega) w (Sl.mono (hS.le (.inr (by simp))) hl_16_9) (Sl.mono (hS.le (.inr (by simp))) hqs) (hS.ext _ _ hg1)) (fun _ _ _ h => h))) ?_
     clear hF hS; rintro _ _ _ a w ⟨rfl, rfl, rfl⟩ hF hS
     refine ⟨⟨iQ, iQ, .inr (hS.keep (sQ.n) zQ), .inr (hS.keep (sQ.n) zQ), iQ, iQ, .inr (hS.keep (sQ.n) zQ), .inr (hS.keep (sQ.n) zQ), iQ, trivial⟩, ?_⟩
     refine goW_take 11 _ rfl kQ rfl hF (hS.keep sQ zQ) (q_move rfl) ?_
     clear hF; intro a hF
     refine goW_take 12 _ rfl kQ rfl hF (hS.keep sQ zQ) (q_extract rfl rfl) ?_
     clear hF; intro a hF
     refine goW_take 13 _ rfl kQ rfl hF (hS.keep sQ zQ) (q_extract rfl rfl) ?_
     clear hF; intro a hF
     refine goW_take 14 _ rfl kQ rfl hF (hS.keep sQ zQ) (q_extract rfl rfl) ?_
     clear hF; intro a hF
     refine goW_take 15 _ rfl kQ rfl hF (hS.keep sQ zQ) (q_assign rfl) ?_
     clear hF; intro a hF
     refine goW_take 16 _ rfl kQ rfl hF (hS.keep sQ zQ) (q_assign rfl) ?_
     clear hF; intro a hF
     refine goW_take 17 _ rfl kQ rfl hF (hS.keep sQ zQ) (q_assign rfl) ?_
     clear hF; intro a hF
     exact goW_done kQ (j2_mk l_16_9 z_16_9 ((And.intro hl_16_9 trivial)) (hF.sub (L' := [(15, _), (17, _), (23, _), (24, _), (25, _), (26, _), (27, _), (28, _), (29, _)]) ⟨rfl, rfl, rfl, rfl, rfl, rfl, rfl, rfl, rfl, trivial⟩) hS)
    rintro a w ⟨l_16_9, z_16_9, ⟨hl_16_9, -⟩, hF, hS⟩
    (try dsimp only at hF); (try dsimp only at hS)
    refine hK20 _ _ ?_
    clear hK20
    refine wp_seq_k ?_; intro K21 hK21
    refine reg hF hS (sq rfl (q_move rfl) <|
      sq rfl (q_move rfl) <|
      sq rfl (q_move rfl) <|
      sq rfl (q_idx_sl ty47 ty9 hzK rfl rfl (by omega)) <|
      sq rfl (q_ld_S ty9 hzK (.inr (by simp)) rfl rfl (by omega)) <|
      sq rfl (q_call fn35 rfl (fun w hS => rhas_ct _ _ _ w (Sl.mono (hS.le (.inr (by simp))) hz3)) (fun _ _ _ h => h)) <|
      sq rfl (q_assign rfl) <|
      sq_end) ?_
    clear hF hS; intro a w hF hS
    refine hK21 _ _ ?_
    clear hK21
    refine wp_seq_k ?_; intro K22 hK22
    refine reg hF hS (sq rfl (q_move rfl) <|
      sq rfl (q_move rfl) <|
      sq rfl (q_gei rfl rfl) <|
      sq rfl (q_eqt ty4 rfl rfl) <|
      sq rfl (q_assign rfl) <|
      sq_end) ?_
    clear hF hS; intro a w hF hS
    refine hK22 _ _ ?_
    clear hK22
    obtain ⟨hs0, hhs0, hS⟩ : ∃ h, h = _ ∧ St _ _ h _ := ⟨_, rfl, hS⟩
    refine wp_cutx (γ := Bool) (fun (rb : Bool) => [(31, .bool rb)]) [(15, _), (17, _), (23, _), (24, _), (25, _), (26, _), (29, _)] (fun (rb : Bool) => hs0) (fun (rb : Bool) => (Mk.chkE rtX (KK.getD j.toNat []) (QQ.getD i.toNat Mk.pf0)).2.2 = 0 → Mk.coll X (QQ.getD i.toNat Mk.pf0) = false → rb = true) (hF.sub ⟨rfl, rfl, rfl, rfl, rfl, rfl, rfl, trivial⟩) hS ?_ ?_
    ·subst hhs0
     refine wp_seq_k ?_; intro K23 hK23
     refine regl ?_
     refine wpl_sq hF hS (sq rfl (q_move rfl) <|
       sq rfl (q_move rfl) <|
       sq_end) ?_
     clear hF hS; intro a w hF hS
     refine wpl_and 1 131 1 hF hS rfl rfl rfl rfl rfl (fun hg => have hg := hg; sq_go 131 rfl rfl rfl (q_move rfl) <|
       sq_end) rfl rfl ?_
     clear hF hS; intro a w hF hS
     refine wpList_nil ?_
     refine hK23 _ _ ?_
     clear hK23
     refine wp_if hF rfl (fun hc4 => ?_) (fun hc4 => ?_)
     ·(try simp only [Bool.or_eq_true, Bool.and_eq_true, Bool.or_eq_false_iff, Bool.and_eq_false_iff, decide_eq_true_eq, decide_eq_false_iff_not, Bool.not_eq_true', Bool.not_eq_false'] at hc4)
      have hmx : 0 ≤ max (Mk.hasI X (KK.getD j.toNat [])) 0 ∧ max (Mk.hasI X (KK.getD j.toNat [])) 0 < (X.length : Int) := by
       have h9 := Mk.hasI_lt (ls := X) (k := (KK.getD j.toNat []))
       have h8 : 0 ≤ Mk.hasI X (KK.getD j.toNat []) := by
        by_cases h7 : 0 ≤ Mk.hasI X (KK.getD j.toNat [])
        ·exact h7
        ·rw [decide_eq_false h7, hc4.2] at hc4; simp at hc4
       have := h9 h8
       omega
      refine reg hF hS (sq rfl (q_move rfl) <|
        sq rfl (q_move rfl) <|
        sq rfl (q_move rfl) <|
        sq rfl (q_max rfl rfl) <|
        sq rfl (q_idx_sl ty24 ty75 hz3 rfl rfl hmx) <|
        sq rfl (q_fld_F ty75 hz3 rfl (by omega) rfl (s' := 0) kQ) <|
        sq rfl (q_ld_FV ty9 hz3 (.inr (by simp)) rfl rfl (by omega)) <|
        sq rfl (q_eqs rfl rfl) <|
        sq rfl (q_assign rfl) <|
        sq_end) ?_
      clear hF hS; intro a w hF hS
      refine ⟨(decide ((Mk.chkE rtX (KK.getD j.toNat []) (QQ.getD i.toNat Mk.pf0)).1 = (X.getD (max (Mk.hasI X (KK.getD j.toNat [])) 0).toNat kv0).2)), ?_, hF.sub ⟨rfl, rfl, rfl, rfl, rfl, rfl, rfl, rfl, trivial⟩, ?_⟩
      ·exact fun h8 h7 => Mk.snd_t hvX hX4 (fun x hx => by have := hqb.2.2.1 x hx; omega) hqb.2.2.2 hcE hc4.2 h8 h7
      ·exact hS
     ·(try simp only [Bool.or_eq_true, Bool.and_eq_true, Bool.or_eq_false_iff, Bool.and_eq_false_iff, decide_eq_true_eq, decide_eq_false_iff_not, Bool.not_eq_true', Bool.not_eq_false'] at hc4)
      refine wp_skip ?_
      refine ⟨(((Mk.chkE rtX (KK.getD j.toNat []) (QQ.getD i.toNat Mk.pf0)).2.1 == decide (0 ≤ Mk.hasI X (KK.getD j.toNat [])))), ?_, hF.sub ⟨rfl, rfl, rfl, rfl, rfl, rfl, rfl, rfl, trivial⟩, ?_⟩
      ·exact fun h8 h7 => Mk.snd_f hvX hX4 (fun x hx => by have := hqb.2.2.1 x hx; omega) hqb.2.2.2 hcE h8 h7
      ·exact hS
    clear hF hS; rintro rb a w hfact hF hS
    subst hhs0; (try dsimp only at hfact); (try dsimp only at hF); (try dsimp only at hS)
    have hrb := hfact
    replace hS : St _ [_, _, _, _, _, _, _, _, _, _, _, _, _, _] [_, _, _] _ := hS
    refine wp_seq_k ?_; intro K24 hK24
    refine wp_seq_k ?_; intro K25 hK25
    refine regl ?_
    refine wpl_sq hF hS (sq rfl (q_move rfl) <|
      sq rfl (q_eqi rfl rfl) <|
      sq rfl (q_move rfl) <|
      sq_end) ?_
    clear hF hS; intro a w hF hS
    refine wpl_and 2 144 2 hF hS rfl rfl rfl rfl rfl (fun hg => have hg := (by first | exact of_decide_eq_true hg | exact hg); sq_go 144 rfl rfl rfl (q_move rfl) <|
      sq_go 144 rfl rfl rfl (q_not rfl) <|
      sq_end) rfl rfl ?_
    clear hF hS; intro a w hF hS
    refine wpl_sq hF hS (sq rfl (q_move rfl) <|
      sq_end) ?_
    clear hF hS; intro a w hF hS
    refine wpl_and 6 148 7 hF hS rfl rfl rfl rfl rfl (fun hg => have hg := hg; sq_go 148 rfl rfl rfl (q_move rfl) <|
      sq_go 148 rfl rfl rfl (q_move rfl) <|
      sq_go 148 rfl rfl rfl (q_move rfl) <|
      sq_go 148 rfl rfl rfl (q_idx_sl ty63 ty54 hzY rfl rfl (by omega)) <|
      sq_go 148 rfl rfl rfl (q_ld_pf ty54 hzY (.inr (by simp)) hqc rfl rfl (by omega)) <|
      sq_go 148 rfl rfl rfl (q_call fn37 rfl (fun w hS => coll_ct _ X (QQ.getD i.toNat Mk.pf0) _ _ (by omega) (fun x hx => by have := hlxX x hx; omega) (fun x hx => by have := hqb.2.2.1 x hx; omega) (by omega) w (Sl.mono (hS.le (.inr (by simp))) hz3) (Sl.mono (hS.le (.inr (by simp))) hql) (Sl.mono (hS.le (.inr (by simp))) hqs) (hS.ext _ _ hg0)) (fun _ _ _ h => h)) <|
      sq_go 148 rfl rfl rfl (q_not rfl) <|
      sq_end) rfl rfl ?_
    clear hF hS; intro a w hF hS
    refine wpList_nil ?_
    refine hK25 _ _ ?_
    clear hK25
    refine wp_if hF rfl (fun hc5 => ?_) (fun hc5 => ?_)
    ·(try simp only [Bool.or_eq_true, Bool.and_eq_true, Bool.or_eq_false_iff, Bool.and_eq_false_iff, decide_eq_true_eq, decide_eq_false_iff_not, Bool.not_eq_true', Bool.not_eq_false'] at hc5)
     exfalso
     have := hrb hc5.1.1 hc5.2
     rw [this] at hc5; simp at hc5
    ·(try simp only [Bool.or_eq_true, Bool.and_eq_true, Bool.or_eq_false_iff, Bool.and_eq_false_iff, decide_eq_true_eq, decide_eq_false_iff_not, Bool.not_eq_true', Bool.not_eq_false'] at hc5)
     refine wp_skip ?_
     refine hK24 _ _ ?_
     clear hK24
     refine wp_seq_k ?_; intro K26 hK26
     revert hS; revert hF; apply regJ (J := J4 (α0 := Value) (α1 := PH) (α2 := Value) (α3 := PH) 207 _ _ _ _ _) #[false, false, false, false, false, false, false, false, false, false, false, false, false, false, false, false, false, false, false, false, false, false] 22 mixed rfl rfl
     ·intro w hF hS
      refine goW_take 0 _ rfl kQ rfl hF (hS.keep sQ (sQ.n.n)) (q_ld_blkW ty29 0 rfl rfl bQ rfl) ?_
      clear hF; intro a hF
      refine goW_take 1 _ rfl kQ rfl hF (hS.keep sQ zQ) (q_move rfl) ?_
      clear hF; intro a hF
      refine goW_take 2 _ rfl kQ rfl hF (hS.keep sQ zQ) (q_move rfl) ?_
      clear hF; intro a hF
      refine goW_take 3 _ rfl kQ rfl hF (hS.keep sQ zQ) (q_idx_sl ty47 ty9 hzK rfl rfl (by omega)) ?_
      clear hF; intro a hF
      refine goW_take 4 _ rfl kQ rfl hF (hS.keep sQ zQ) (q_ld_S ty9 hzK (.inr (by simp)) rfl rfl (by omega)) ?_
      clear hF; intro a hF
      refine goW_take 5 _ rfl kQ rfl hF (hS.keep sQ zQ) (q_move rfl) ?_
      clear hF; intro a hF
      refine goW_take 6 _ rfl kQ rfl hF (hS.keep sQ zQ) (q_move rfl) ?_
      clear hF; intro a hF
      refine goW_take 7 _ rfl kQ rfl hF (hS.keep sQ zQ) (q_addi rfl rfl (by omega)) ?_
      clear hF; intro a hF
      refine goW_take 8 _ rfl kQ rfl hF (hS.keep sQ zQ) (q_remi rfl rfl (by omega)) ?_
      clear hF; intro a hF
      refine goW_take 9 _ rfl kQ rfl hF (hS.keep sQ zQ) (q_idx_sl ty47 ty9 hzK rfl rfl (by omega)) ?_
      clear hF; intro a hF
      refine goW_take 10 _ rfl kQ rfl hF (hS.keep sQ zQ) (q_ld_S ty9 hzK (.inr (by simp)) rfl rfl (by omega)) ?_
      clear hF; intro a hF
      refine goW_take 11 _ rfl kQ rfl hF (hS.keep sQ zQ) (q_move rfl) ?_
      clear hF; intro a hF
      refine goW_take 12 _ rfl kQ rfl hF (hS.keep sQ zQ) (q_move rfl) ?_
      clear hF; intro a hF
      refine goW_take 13 _ rfl kQ rfl hF (hS.keep sQ zQ) (q_idx_sl ty63 ty54 hzY rfl rfl (by omega)) ?_
      clear hF; intro a hF
      refine goW_take 14 _ rfl kQ rfl hF (hS.keep sQ zQ) (q_ld_pf ty54 hzY (.inr (by simp)) hqc rfl rfl (by omega)) ?_
      clear hF; intro a hF
      refine gQ 15 rfl rfl hF hS rfl (ef_call fn30 rfl (fun w hS => proof_ct (QQ.getD i.toNat Mk.pf0) _ _ (by omega) w (Sl.mono (hS.le (.inr (by simp))) hql) (Sl.mono (hS.le (.inr (by simp))) hqs))) ?_
      clear hF hS; rintro _ _ _ a w ⟨_, _, rfl, rfl, ⟨l_23_15, z_23_15, rfl, hl_23_15, rfl, rfl⟩⟩ hF hS
      refine ⟨⟨iQ, iQ, .inr (hS.keep (sQ.n) zQ), .inr (hS.keep (sQ.n) zQ), .inr (hS.keep (sQ.n) zQ), .inr (hS.keep (sQ.n) zQ), .inr (hS.keep (sQ.n) zQ), .inr (hS.keep (sQ.n) zQ), .inr (hS.keep (sQ.n) zQ), .inr (hS.keep (sQ.n) zQ), .inr (hS.keep (sQ.n) zQ), .inr (hS.keep (sQ.n) zQ), .inr (hS.keep (sQ.n) zQ), .inr (hS.keep (sQ.n) zQ), .inr (hS.keep (sQ.n) (sQ.n.n)), trivial⟩, ?_⟩
      refine gQ 16 rfl rfl hF hS rfl (ef_call fn32 rfl (fun w hS => chkr_ct (QQ.getD i.toNat Mk.pf0) _ _ rtX (KK.getD j.toNat []) (KK.getD ((j + 1) % 3).toNat []) (by first | with_reducible assumption | omega) w (Sl.mono (hS.le (.inr (by simp))) hl_23_15) (Sl.mono (hS.le (.inr (by simp))) hqs) (hS.ext _ _ hg1))) ?_
      clear hF hS; rintro _ _ _ a w ⟨_, _, rfl, rfl, ⟨v_23_16_1, z_23_16, hz_23_16, rfl, rfl, rfl⟩⟩ hF hS
      refine ⟨⟨iQ, iQ, .inr (hS.keep (sQ.n.n) zQ), .inr (hS.keep (sQ.n.n) zQ), iQ, iQ, .inr (hS.keep (sQ.n.n) zQ), .inr (hS.keep (sQ.n.n) zQ), .inr (hS.keep (sQ.n.n) zQ), .inr (hS.keep (sQ.n.n) zQ), iQ, iQ, .inr (hS.keep (sQ.n.n) zQ), .inr (hS.keep (sQ.n.n) zQ), iQ, trivial⟩, ?_⟩
      refine goW_take 17 _ rfl kQ rfl hF (hS.keep sQ zQ) (q_move rfl) ?_
      clear hF; intro a hF
      refine goW_take 18 _ rfl kQ rfl hF (hS.keep sQ zQ) (q_extract rfl rfl) ?_
      clear hF; intro a hF
      refine goW_take 19 _ rfl kQ rfl hF (hS.keep sQ zQ) (q_extract rfl rfl) ?_
      clear hF; intro a hF
      refine goW_take 20 _ rfl kQ rfl hF (hS.keep sQ zQ) (q_assign rfl) ?_
      clear hF; intro a hF
      refine goW_take 21 _ rfl kQ rfl hF (hS.keep sQ zQ) (q_assign rfl) ?_
      clear hF; intro a hF
      exact goW_done kQ (j4_mk l_23_15 z_23_15 v_23_16_1 z_23_16 ((And.intro hl_23_15 (And.intro hz_23_16 trivial))) (hF.sub (L' := [(15, _), (17, _), (23, _), (24, _), (25, _), (26, _), (32, _), (33, _)]) ⟨rfl, rfl, rfl, rfl, rfl, rfl, rfl, rfl, trivial⟩) hS)
     rintro a w ⟨l_23_15, z_23_15, v_23_16_1, z_23_16, ⟨hl_23_15, hz_23_16, -⟩, hF, hS⟩
     (try dsimp only at hF); (try dsimp only at hS)
     refine hK26 _ _ ?_
     clear hK26
     refine wp_seq_k ?_; intro K27 hK27
     rcases Mk.rng_cases hvX hX4 (fun x hx => by have := hqb.2.2.1 x hx; omega) hqb.2.2.2 hrtX (KK.getD j.toNat []) (KK.getD ((j + 1) % 3).toNat []) with hA | hB | hC
     ·skip
      refine regd mixed kQ hF hS (sq rfl (q_move rfl) <|
        sq rfl (q_df (q_eqi rfl rfl) (hA)) <|
        sq rfl (q_move rfl) <|
        sq_skip 179 rfl rfl rfl rfl <|
        sq_skip 179 rfl rfl rfl rfl <|
        sq_skip 179 rfl rfl rfl rfl <|
        sq_skip 179 rfl rfl rfl rfl <|
        sq_skip 179 rfl rfl rfl rfl <|
        sq_skip 179 rfl rfl rfl rfl <|
        sq_skip 179 rfl rfl rfl rfl <|
        sq_skip 179 rfl rfl rfl rfl <|
        sq_skip 179 rfl rfl rfl rfl <|
        sq_skip 179 rfl rfl rfl rfl <|
        sq_skip 179 rfl rfl rfl rfl <|
        sq_skip 179 rfl rfl rfl rfl <|
        sq_skip 179 rfl rfl rfl rfl <|
        sq_skip 179 rfl rfl rfl rfl <|
        sq_skip 179 rfl rfl rfl rfl <|
        sq_skip 179 rfl rfl rfl rfl <|
        sq rfl (q_pick_f rfl rfl) <|
        sq rfl (q_move rfl) <|
        sq_skip 197 rfl rfl rfl rfl <|
        sq_skip 197 rfl rfl rfl rfl <|
        sq_skip 197 rfl rfl rfl rfl <|
        sq_skip 197 rfl rfl rfl rfl <|
        sq_skip 197 rfl rfl rfl rfl <|
        sq_skip 197 rfl rfl rfl rfl <|
        sq_skip 197 rfl rfl rfl rfl <|
        sq rfl (q_pick_f rfl rfl) <|
        sq_end) ?_
      clear hF hS; intro a w hF hS
      refine hK27 _ _ ?_
      clear hK27
      refine wp_if hF rfl (fun h => absurd h (by simp)) (fun _ => ?_)
      refine wp_skip ?_
      refine hK19 _ _ ?_
      clear hK19
      refine reg hF hS (sq rfl (q_move rfl) <|
        sq rfl (q_addi rfl rfl (by omega)) <|
        sq rfl (q_assign rfl) <|
        sq_end) ?_
      clear hF hS; intro a w hF hS
      replace hS := hS.keep (sQ.n.n.n) sQ
      refine ⟨(j + 1), ?_, ?_, hF.sub ⟨rfl, rfl, rfl, rfl, rfl, rfl, trivial⟩, ?_⟩
      ·(try dsimp only); omega
      ·(try dsimp only); omega
      ·exact hS
     ·skip
      revert hS; revert hF; apply regJ (J := J4 (α0 := Value) (α1 := PH) (α2 := Value) (α3 := PH) 207 _ _ _ _ _) #[false, false, false, false, false, false, false, false, false, false, false, false, false, false, false, false, false, false, false, false, false, false, false, false, false, false, false, false, false] 29 mixed rfl rfl
      ·intro w hF hS
       refine goW_take 0 _ rfl kQ rfl hF (hS.keep sQ zQ) (q_move rfl) ?_
       clear hF; intro a hF
       refine goW_take 1 _ rfl kQ rfl hF (hS.keep sQ zQ) (q_dt (q_eqi rfl rfl) (hB.1)) ?_
       clear hF; intro a hF
       refine goW_take 2 _ rfl kQ rfl hF (hS.keep sQ zQ) (q_move rfl) ?_
       clear hF; intro a hF
       refine goW_takeg 3 _ rfl (wanted_go 179 rfl rfl) kQ rfl hF (hS.keep sQ zQ) (q_move rfl) ?_
       clear hF; intro a hF
       refine goW_takeg 5 _ rfl (wanted_go 179 rfl rfl) kQ rfl hF (hS.keep sQ zQ) (q_move rfl) ?_
       clear hF; intro a hF
       refine goW_takeg 6 _ rfl (wanted_go 179 rfl rfl) kQ rfl hF (hS.keep sQ zQ) (q_move rfl) ?_
       clear hF; intro a hF
       refine goW_takeg 7 _ rfl (wanted_go 179 rfl rfl) kQ rfl hF (hS.keep sQ zQ) (q_move rfl) ?_
       clear hF; intro a hF
       refine goW_takeg 8 _ rfl (wanted_go 179 rfl rfl) kQ rfl hF (hS.keep sQ zQ) (q_idx_sl ty47 ty9 hzK rfl rfl (by omega)) ?_
       clear hF; intro a hF
       refine goW_takeg 9 _ rfl (wanted_go 179 rfl rfl) kQ rfl hF (hS.keep sQ zQ) (q_ld_S ty9 hzK (.inr (by simp)) rfl rfl (by omega)) ?_
       clear hF; intro a hF
       refine goW_takeg 10 _ rfl (wanted_go 179 rfl rfl) kQ rfl hF (hS.keep sQ zQ) (q_move rfl) ?_
       clear hF; intro a hF
       refine goW_takeg 11 _ rfl (wanted_go 179 rfl rfl) kQ rfl hF (hS.keep sQ zQ) (q_move rfl) ?_
       clear hF; intro a hF
       refine goW_takeg 12 _ rfl (wanted_go 179 rfl rfl) kQ rfl hF (hS.keep sQ zQ) (q_addi rfl rfl (by omega)) ?_
       clear hF; intro a hF
       refine goW_takeg 13 _ rfl (wanted_go 179 rfl rfl) kQ rfl hF (hS.keep sQ zQ) (q_remi rfl rfl (by omega)) ?_
       clear hF; intro a hF
       refine goW_takeg 14 _ rfl (wanted_go 179 rfl rfl) kQ rfl hF (hS.keep sQ zQ) (q_idx_sl ty47 ty9 hzK rfl rfl (by omega)) ?_
       clear hF; intro a hF
       refine goW_takeg 15 _ rfl (wanted_go 179 rfl rfl) kQ rfl hF (hS.keep sQ zQ) (q_ld_S ty9 hzK (.inr (by simp)) rfl rfl (by omega)) ?_
       clear hF; intro a hF
       refine goW_fork [4] kQ rfl ⟨?_, trivial⟩
       refine stepW_efg _ rfl (wanted_go 179 rfl rfl) rfl hF hS rfl (ef_call fn18 rfl (fun w hS => plain_ct _ _ (by omega) w (Sl.mono (hS.le (.inr (by simp))) hz_23_16))) ?_
       clear hF hS; rintro v_24_4 _ _ a w ⟨_, _, rfl, rfl, ⟨z_24_4, hz_24_4, rfl, rfl⟩⟩ hF hS
       refine ⟨⟨.inr (hS.keep (sQ.n) zQ), .inr (hS.keep (sQ.n) zQ), .inr (hS.keep (sQ.n) zQ), .inr (hS.keep (sQ.n) zQ), .inr (hS.keep (sQ.n) zQ), .inr (hS.keep (sQ.n) zQ), .inr (hS.keep (sQ.n) zQ), .inr (hS.keep (sQ.n) zQ), .inr (hS.keep (sQ.n) zQ), .inr (hS.keep (sQ.n) zQ), .inr (hS.keep (sQ.n) zQ), iQ, iQ, iQ, .inr (hS.keep (sQ.n) zQ), trivial⟩, ?_⟩
       refine goW_fork [16] kQ rfl ⟨?_, trivial⟩
       refine stepW_efg _ rfl (wanted_go 179 rfl rfl) rfl hF hS rfl (ef_call fn36 rfl (fun w hS => inside_ct _ _ _ _ (by first | with_reducible assumption | omega | (simp; omega)) w (Sl.mono (hS.le (.inr (by simp))) hz3))) ?_
       clear hF hS; rintro v_24_16 _ _ a w ⟨_, _, rfl, rfl, ⟨z_24_16, hz_24_16, rfl, rfl⟩⟩ hF hS
       refine ⟨⟨iQ, iQ, .inr (hS.keep (sQ.n.n) zQ), .inr (hS.keep (sQ.n.n) zQ), .inr (hS.keep (sQ.n.n) zQ), .inr (hS.keep (sQ.n.n) zQ), iQ, iQ, .inr (hS.keep (sQ.n.n) zQ), .inr (hS.keep (sQ.n.n) zQ), iQ, iQ, iQ, iQ, .inr (hS.keep (sQ.n.n) zQ), trivial⟩, ?_⟩
       refine goW_fork [17] kQ rfl ⟨?_, trivial⟩
       refine stepW_efg _ rfl (wanted_go 179 rfl rfl) rfl hF hS rfl (ef_qt (q_dt (q_call fn34 rfl (fun w hS => samel_ct _ _ _ _ w (Sl.mono (hS.le (.inr (by simp))) hz_24_4) (Sl.mono (hS.le (.inr (by simp))) hz_24_16)) (fun _ _ _ h => h)) (hB.2))) ?_
       clear hF hS; rintro _ _ _ a w ⟨rfl, rfl, rfl⟩ hF hS
       refine ⟨⟨iQ, iQ, .inr (hS.keep (sQ.n.n) zQ), .inr (hS.keep (sQ.n.n) zQ), .inr (hS.keep (sQ.n.n) zQ), .inr (hS.keep (sQ.n.n) zQ), iQ, iQ, .inr (hS.keep (sQ.n.n) zQ), .inr (hS.keep (sQ.n.n) zQ), iQ, iQ, iQ, iQ, .inr (hS.keep (sQ.n.n) zQ), trivial⟩, ?_⟩
       refine goW_takeg 18 _ rfl (wanted_go 179 rfl rfl) kQ rfl hF (hS.keep sQ zQ) (q_not rfl) ?_
       clear hF; intro a hF
       refine goW_take 19 _ rfl kQ rfl hF (hS.keep sQ zQ) (q_pick_t rfl rfl) ?_
       clear hF; intro a hF
       refine goW_take 20 _ rfl kQ rfl hF (hS.keep sQ zQ) (q_move rfl) ?_
       clear hF; intro a hF
       refine goW_skip 21 #[true, true, true, true, true, true, true, true, true, true, true, true, true, true, true, true, true, true, true, true, true, true, false, false, false, false, false, false, false] rfl (wanted_no 197 rfl rfl rfl) kQ rfl hF hS.k0 ?_
       clear hF; intro a hF
       refine goW_skip 22 #[true, true, true, true, true, true, true, true, true, true, true, true, true, true, true, true, true, true, true, true, true, true, true, false, false, false, false, false, false] rfl (wanted_no 197 rfl rfl rfl) kQ rfl hF hS.k0 ?_
       clear hF; intro a hF
       refine goW_skip 23 #[true, true, true, true, true, true, true, true, true, true, true, true, true, true, true, true, true, true, true, true, true, true, true, true, false, false, false, false, false] rfl (wanted_no 197 rfl rfl rfl) kQ rfl hF hS.k0 ?_
       clear hF; intro a hF
       refine goW_skip 24 #[true, true, true, true, true, true, true, true, true, true, true, true, true, true, true, true, true, true, true, true, true, true, true, true, true, false, false, false, false] rfl (wanted_no 197 rfl rfl rfl) kQ rfl hF hS.k0 ?_
       clear hF; intro a hF
       refine goW_skip 25 #[true, true, true, true, true, true, true, true, true, true, true, true, true, true, true, true, true, true, true, true, true, true, true, true, true, true, false, false, false] rfl (wanted_no 197 rfl rfl rfl) kQ rfl hF hS.k0 ?_
       clear hF; intro a hF
       refine goW_fork [26] kQ rfl ⟨?_, trivial⟩
       refine stepW_skip #[true, true, true, true, true, true, true, true, true, true, true, true, true, true, true, true, true, true, true, true, true, true, true, true, true, true, true, false, false] rfl (wanted_no 197 rfl rfl rfl) rfl hF hS.k0 rfl fun a hF => ?_
       refine ⟨⟨iQ, iQ, .inr hS.k0, .inr hS.k0, iQ, iQ, iQ, .inr (hS.keep sQ zQ), iQ, iQ, .inr (hS.keep (sQ.n.n) zQ), .inr (hS.keep (sQ.n.n) zQ), .inr (hS.keep (sQ.n.n) zQ), .inr (hS.keep (sQ.n.n) zQ), iQ, iQ, .inr (hS.keep (sQ.n.n) zQ), .inr (hS.keep (sQ.n.n) zQ), iQ, iQ, iQ, iQ, .inr (hS.keep (sQ.n.n) zQ), trivial⟩, ?_⟩
       refine goW_skip 27 #[true, true, true, true, true, true, true, true, true, true, true, true, true, true, true, true, true, true, true, true, true, true, true, true, true, true, true, true, false] rfl (wanted_no 197 rfl rfl rfl) kQ rfl hF hS.k0 ?_
       clear hF; intro a hF
       refine goW_take 28 _ rfl kQ rfl hF (hS.keep sQ zQ) (q_pick_f rfl rfl) ?_
       clear hF; intro a hF
       exact goW_done kQ (j4_mk v_24_4 z_24_4 v_24_16 z_24_16 ((And.intro hz_24_4 (And.intro hz_24_16 trivial))) (hF.sub (L' := [(15, _), (17, _), (23, _), (24, _), (25, _), (26, _), (205, _)]) ⟨rfl, rfl, rfl, rfl, rfl, rfl, rfl, trivial⟩) hS)
      rintro a w ⟨v_24_4, z_24_4, v_24_16, z_24_16, ⟨hz_24_4, hz_24_16, -⟩, hF, hS⟩
      (try dsimp only at hF); (try dsimp only at hS)
      refine hK27 _ _ ?_
      clear hK27
      refine wp_if hF rfl (fun h => absurd h (by simp)) (fun _ => ?_)
      refine wp_skip ?_
      refine hK19 _ _ ?_
      clear hK19
      refine reg hF hS (sq rfl (q_move rfl) <|
        sq rfl (q_addi rfl rfl (by omega)) <|
        sq rfl (q_assign rfl) <|
        sq_end) ?_
      clear hF hS; intro a w hF hS
      replace hS := hS.keep (sQ.n.n.n.n.n) sQ
      refine ⟨(j + 1), ?_, ?_, hF.sub ⟨rfl, rfl, rfl, rfl, rfl, rfl, trivial⟩, ?_⟩
      ·(try dsimp only); omega
      ·(try dsimp only); omega
      ·exact hS
     ·skip
      revert hS; revert hF; apply regJ (J := J4 (α0 := Value) (α1 := PH) (α2 := Value) (α3 := PH) 207 _ _ _ _ _) #[false, false, false, false, false, false, false, false, false, false, false, false, false, false, false, false, false, false, false, false, false, false, false, false, false, false, false, false, false] 29 mixed rfl rfl
      ·intro w hF hS
       refine goW_take 0 _ rfl kQ rfl hF (hS.keep sQ zQ) (q_move rfl) ?_
       clear hF; intro a hF
       refine goW_take 1 _ rfl kQ rfl hF (hS.keep sQ zQ) (q_dt (q_eqi rfl rfl) (hC.1)) ?_
       clear hF; intro a hF
       refine goW_take 2 _ rfl kQ rfl hF (hS.keep sQ zQ) (q_move rfl) ?_
       clear hF; intro a hF
       refine goW_takeg 3 _ rfl (wanted_go 179 rfl rfl) kQ rfl hF (hS.keep sQ zQ) (q_move rfl) ?_
       clear hF; intro a hF
       refine goW_takeg 5 _ rfl (wanted_go 179 rfl rfl) kQ rfl hF (hS.keep sQ zQ) (q_move rfl) ?_
       clear hF; intro a hF
       refine goW_takeg 6 _ rfl (wanted_go 179 rfl rfl) kQ rfl hF (hS.keep sQ zQ) (q_move rfl) ?_
       clear hF; intro a hF
       refine goW_takeg 7 _ rfl (wanted_go 179 rfl rfl) kQ rfl hF (hS.keep sQ zQ) (q_move rfl) ?_
       clear hF; intro a hF
       refine goW_takeg 8 _ rfl (wanted_go 179 rfl rfl) kQ rfl hF (hS.keep sQ zQ) (q_idx_sl ty47 ty9 hzK rfl rfl (by omega)) ?_
       clear hF; intro a hF
       refine goW_takeg 9 _ rfl (wanted_go 179 rfl rfl) kQ rfl hF (hS.keep sQ zQ) (q_ld_S ty9 hzK (.inr (by simp)) rfl rfl (by omega)) ?_
       clear hF; intro a hF
       refine goW_takeg 10 _ rfl (wanted_go 179 rfl rfl) kQ rfl hF (hS.keep sQ zQ) (q_move rfl) ?_
       clear hF; intro a hF
       refine goW_takeg 11 _ rfl (wanted_go 179 rfl rfl) kQ rfl hF (hS.keep sQ zQ) (q_move rfl) ?_
       clear hF; intro a hF
       refine goW_takeg 12 _ rfl (wanted_go 179 rfl rfl) kQ rfl hF (hS.keep sQ zQ) (q_addi rfl rfl (by omega)) ?_
       clear hF; intro a hF
       refine goW_takeg 13 _ rfl (wanted_go 179 rfl rfl) kQ rfl hF (hS.keep sQ zQ) (q_remi rfl rfl (by omega)) ?_
       clear hF; intro a hF
       refine goW_takeg 14 _ rfl (wanted_go 179 rfl rfl) kQ rfl hF (hS.keep sQ zQ) (q_idx_sl ty47 ty9 hzK rfl rfl (by omega)) ?_
       clear hF; intro a hF
       refine goW_takeg 15 _ rfl (wanted_go 179 rfl rfl) kQ rfl hF (hS.keep sQ zQ) (q_ld_S ty9 hzK (.inr (by simp)) rfl rfl (by omega)) ?_
       clear hF; intro a hF
       refine goW_fork [4] kQ rfl ⟨?_, trivial⟩
       refine stepW_efg _ rfl (wanted_go 179 rfl rfl) rfl hF hS rfl (ef_call fn18 rfl (fun w hS => plain_ct _ _ (by omega) w (Sl.mono (hS.le (.inr (by simp))) hz_23_16))) ?_
       clear hF hS; rintro v_24_4 _ _ a w ⟨_, _, rfl, rfl, ⟨z_24_4, hz_24_4, rfl, rfl⟩⟩ hF hS
       refine ⟨⟨.inr (hS.keep (sQ.n) zQ), .inr (hS.keep (sQ.n) zQ), .inr (hS.keep (sQ.n) zQ), .inr (hS.keep (sQ.n) zQ), .inr (hS.keep (sQ.n) zQ), .inr (hS.keep (sQ.n) zQ), .inr (hS.keep (sQ.n) zQ), .inr (hS.keep (sQ.n) zQ), .inr (hS.keep (sQ.n) zQ), .inr (hS.keep (sQ.n) zQ), .inr (hS.keep (sQ.n) zQ), iQ, iQ, iQ, .inr (hS.keep (sQ.n) zQ), trivial⟩, ?_⟩
       refine goW_fork [16] kQ rfl ⟨?_, trivial⟩
       refine stepW_efg _ rfl (wanted_go 179 rfl rfl) rfl hF hS rfl (ef_call fn36 rfl (fun w hS => inside_ct _ _ _ _ (by first | with_reducible assumption | omega | (simp; omega)) w (Sl.mono (hS.le (.inr (by simp))) hz3))) ?_
       clear hF hS; rintro v_24_16 _ _ a w ⟨_, _, rfl, rfl, ⟨z_24_16, hz_24_16, rfl, rfl⟩⟩ hF hS
       refine ⟨⟨iQ, iQ, .inr (hS.keep (sQ.n.n) zQ), .inr (hS.keep (sQ.n.n) zQ), .inr (hS.keep (sQ.n.n) zQ), .inr (hS.keep (sQ.n.n) zQ), iQ, iQ, .inr (hS.keep (sQ.n.n) zQ), .inr (hS.keep (sQ.n.n) zQ), iQ, iQ, iQ, iQ, .inr (hS.keep (sQ.n.n) zQ), trivial⟩, ?_⟩
       refine goW_fork [17] kQ rfl ⟨?_, trivial⟩
       refine stepW_efg _ rfl (wanted_go 179 rfl rfl) rfl hF hS rfl (ef_qt (q_df (q_call fn34 rfl (fun w hS => samel_ct _ _ _ _ w (Sl.mono (hS.le (.inr (by simp))) hz_24_4) (Sl.mono (hS.le (.inr (by simp))) hz_24_16)) (fun _ _ _ h => h)) (hC.2.1))) ?_
       clear hF hS; rintro _ _ _ a w ⟨rfl, rfl, rfl⟩ hF hS
       refine ⟨⟨iQ, iQ, .inr (hS.keep (sQ.n.n) zQ), .inr (hS.keep (sQ.n.n) zQ), .inr (hS.keep (sQ.n.n) zQ), .inr (hS.keep (sQ.n.n) zQ), iQ, iQ, .inr (hS.keep (sQ.n.n) zQ), .inr (hS.keep (sQ.n.n) zQ), iQ, iQ, iQ, iQ, .inr (hS.keep (sQ.n.n) zQ), trivial⟩, ?_⟩
       refine goW_takeg 18 _ rfl (wanted_go 179 rfl rfl) kQ rfl hF (hS.keep sQ zQ) (q_not rfl) ?_
       clear hF; intro a hF
       refine goW_take 19 _ rfl kQ rfl hF (hS.keep sQ zQ) (q_pick_t rfl rfl) ?_
       clear hF; intro a hF
       refine goW_take 20 _ rfl kQ rfl hF (hS.keep sQ zQ) (q_move rfl) ?_
       clear hF; intro a hF
       refine goW_takeg 21 _ rfl (wanted_go 197 rfl rfl) kQ rfl hF (hS.keep sQ zQ) (q_move rfl) ?_
       clear hF; intro a hF
       refine goW_takeg 22 _ rfl (wanted_go 197 rfl rfl) kQ rfl hF (hS.keep sQ zQ) (q_move rfl) ?_
       clear hF; intro a hF
       refine goW_takeg 23 _ rfl (wanted_go 197 rfl rfl) kQ rfl hF (hS.keep sQ zQ) (q_move rfl) ?_
       clear hF; intro a hF
       refine goW_takeg 24 _ rfl (wanted_go 197 rfl rfl) kQ rfl hF (hS.keep sQ zQ) (q_idx_sl ty63 ty54 hzY rfl rfl (by omega)) ?_
       clear hF; intro a hF
       refine goW_takeg 25 _ rfl (wanted_go 197 rfl rfl) kQ rfl hF (hS.keep sQ zQ) (q_ld_pf ty54 hzY (.inr (by simp)) hqc rfl rfl (by omega)) ?_
       clear hF; intro a hF
       refine goW_fork [26] kQ rfl ⟨?_, trivial⟩
       refine stepW_efg _ rfl (wanted_go 197 rfl rfl) rfl hF hS rfl (ef_qt (q_bt (q_call fn37 rfl (fun w hS => coll_ct _ X (QQ.getD i.toNat Mk.pf0) _ _ (by omega) (fun x hx => by have := hlxX x hx; omega) (fun x hx => by have := hqb.2.2.1 x hx; omega) (by omega) w (Sl.mono (hS.le (.inr (by simp))) hz3) (Sl.mono (hS.le (.inr (by simp))) hql) (Sl.mono (hS.le (.inr (by simp))) hqs) (hS.ext _ _ hg0)) (fun _ _ _ h => h)) (hC.2.2))) ?_
       clear hF hS; rintro _ _ _ a w ⟨rfl, rfl, rfl⟩ hF hS
       refine ⟨⟨iQ, iQ, .inr (hS.keep sQ zQ), .inr (hS.keep sQ zQ), iQ, iQ, iQ, .inr (hS.keep sQ zQ), iQ, iQ, .inr (hS.keep (sQ.n.n) zQ), .inr (hS.keep (sQ.n.n) zQ), .inr (hS.keep (sQ.n.n) zQ), .inr (hS.keep (sQ.n.n) zQ), iQ, iQ, .inr (hS.keep (sQ.n.n) zQ), .inr (hS.keep (sQ.n.n) zQ), iQ, iQ, iQ, iQ, .inr (hS.keep (sQ.n.n) zQ), trivial⟩, ?_⟩
       refine goW_takeg 27 _ rfl (wanted_go 197 rfl rfl) kQ rfl hF (hS.keep sQ zQ) (q_not rfl) ?_
       clear hF; intro a hF
       refine goW_take 28 _ rfl kQ rfl hF (hS.keep sQ zQ) (q_pick_t rfl rfl) ?_
       clear hF; intro a hF
       exact goW_done kQ (j4_mk v_24_4 z_24_4 v_24_16 z_24_16 ((And.intro hz_24_4 (And.intro hz_24_16 trivial))) (hF.sub (L' := [(15, _), (17, _), (23, _), (24, _), (25, _), (26, _), (205, _)]) ⟨rfl, rfl, rfl, rfl, rfl, rfl, rfl, trivial⟩) hS)
      rintro a w ⟨v_24_4, z_24_4, v_24_16, z_24_16, ⟨hz_24_4, hz_24_16, -⟩, hF, hS⟩
      (try dsimp only at hF); (try dsimp only at hS)
      refine hK27 _ _ ?_
      clear hK27
      refine wp_if hF rfl (fun h => absurd h (by simp)) (fun _ => ?_)
      refine wp_skip ?_
      refine hK19 _ _ ?_
      clear hK19
      refine reg hF hS (sq rfl (q_move rfl) <|
        sq rfl (q_addi rfl rfl (by omega)) <|
        sq rfl (q_assign rfl) <|
        sq_end) ?_
      clear hF hS; intro a w hF hS
      replace hS := hS.keep (sQ.n.n.n.n.n) sQ
      refine ⟨(j + 1), ?_, ?_, hF.sub ⟨rfl, rfl, rfl, rfl, rfl, rfl, trivial⟩, ?_⟩
      ·(try dsimp only); omega
      ·(try dsimp only); omega
      ·exact hS
   ·refine wp_exit ?_
    refine hK15 _ _ ?_
    clear hK15
    refine reg hF hS (sq rfl (q_move rfl) <|
      sq rfl (q_addi rfl rfl (by omega)) <|
      sq rfl (q_assign rfl) <|
      sq_end) ?_
    clear hF hS; intro a w hF hS
    refine ⟨(i + 1), ?_, ?_, hF.sub ⟨rfl, rfl, rfl, rfl, rfl, trivial⟩, ?_⟩
    ·(try dsimp only); omega
    ·(try dsimp only); omega
    ·exact hS
  ·refine wp_exit ?_
   refine hK11 _ _ ?_
   clear hK11
   refine wp_seq_k ?_; intro K28 hK28
   refine reg hF hS (sq rfl (q_call fn19 rfl (fun w hS => lives_ct w (hS.ext _ _ hg1)) (fun _ _ _ h => h)) <|
     sq rfl (q_assign rfl) <|
     sq_end) ?_
   clear hF hS; intro a w hF hS
   refine hK28 _ _ ?_
   clear hK28
   refine wp_ret ?_
   exact fn_ret (rs := [.tmp 14]) rfl hF hS (vs := [_]) ⟨rfl, trivial⟩ zQ zQ (rfl)
end Go.Proofs.YtdojfnigffeblaaDoor
