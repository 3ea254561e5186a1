/- A text of a proof over this seat: walks over the program's functions and the plain laws that they need. -/
import Derived.Test.YtdojfnigffeblaaDoorMm13
import Derived.Test.YtdojfnigffeblaaDoorMkA
import Derived.Test.YtdojfnigffeblaaDoorFwD
import Derived.Test.YtdojfnigffeblaaDoorFwB
set_option linter.all false
namespace Go.Proofs.YtdojfnigffeblaaDoor
open Go.Fw
theorem ty27 : Tf Tryd.prog 27 (.slice 24) 1 24 (Value.slice none 0 0) := ⟨Tryd.underlying27, by kernel_rfl⟩
theorem fn28 : FnOk Tryd.prog 28 := ⟨_, Tryd.func28, rfl, by kernel_rfl⟩
theorem fn37 : FnOk Tryd.prog 37 := ⟨_, Tryd.func37, rfl, by kernel_rfl⟩
theorem fn38 : FnOk Tryd.prog 38 := ⟨_, Tryd.func38, rfl, by kernel_rfl⟩

attribute [local irreducible] Sha.sum Sha.mac Sha.ofD Wi.int Wi.ints Wi.bytes Sha.inp Mk.half Lib.compareBytes Mk.frm Mk.rootD Mk.provE Mk.rangE Mk.rootE Mk.chkE Mk.chkR Mk.shown Mk.leavesL Mk.keyL Mk.keyB Mk.hasI Mk.inside Mk.bent Mk.coll Mk.vE Mk.rowD Gu.arnd

set_option maxRecDepth 4000 in
set_option maxHeartbeats 2000000 in
theorem mlaw6_ct (v1 v2 : Value) (l n : List Int) (how b : Int) (hh9 : -9223372036854775808 ≤ how ∧ how ≤ 9223372036854775807) (hb9 : -9223372036854775808 ≤ b ∧ b ≤ 9223372036854775807) (w : World) (hb1 : Sl encI (ph w) v1 l) (hb2 : Sl encI (ph w) v2 n) {fz0 : Nat × Nat} {bt0 : TypeId} (hg0 : w.heap[0]? = some (.cells (Sha.kc.map vw).toArray bt0 fz0)) {fz1 : Nat × Nat} {bt1 : TypeId} (hg1 : w.heap[2]? = some (.cells (Sha.kc.map vw).toArray bt1 fz1)) : Ct Tryd.prog 8 [v1, v2, vi how, vi b] w (fun r _ _ => r = .bool true) := by
 refine fn_enter Tryd.func8 rfl Tryd.ntmps8 (Nat.le_of_ble_eq_true rfl) fun a hF hS => ?_
 obtain ⟨X, hX⟩ : ∃ x, x = Mk.leavesL l := ⟨_, rfl⟩
 have hlbX := Mk.leaves_bd l
 have hvX := Mk.leaves_vE l
 rw [← hX] at hlbX hvX
 obtain ⟨hlnX, hlxX⟩ := hlbX
 obtain ⟨rtX, hrtX⟩ : ∃ x, x = (Mk.rootE X).1 := ⟨_, rfl⟩
 have hrlX : rtX.length = 16 := by rw [hrtX, Mk.rootE_n hvX]; exact Mk.rootD_16 _ _
 have hroX : Mk.rootE X = (rtX, 0) := by rw [hrtX, Mk.rootE_n hvX]
 have hrnX : (Mk.rootE X).1.length = 16 := by rw [← hrtX]; exact hrlX
 obtain ⟨Y, hY⟩ : ∃ x, x = Mk.leavesL n := ⟨_, rfl⟩
 have hlbY := Mk.leaves_bd n
 rw [← hY] at hlbY
 have h4 := Gu.arnd_range (n := how) (m := 4) (by omega)
 obtain ⟨B, hB⟩ : ∃ x, x = Mk.bent ⟨0, 0, X, []⟩ (4 + Gu.arnd how 4) b := ⟨_, rfl⟩
 have hsX : Mk.smP ⟨0, 0, X, []⟩ 11 3 := ⟨hlnX, Nat.zero_le _, fun x hx => by have := hlxX x hx; omega, fun d hd => by cases hd⟩
 have hsX2 := Mk.smP_mono hsX (show 11 ≤ 1000 by decide) (show 3 ≤ 1000 by decide)
 have hsB := Mk.bent_sm hsX (4 + Gu.arnd how 4) b
 rw [← hB] at hsB
 obtain ⟨LL, hLL⟩ : ∃ x, x = [X, Y, B.lv] := ⟨_, rfl⟩
 have hLn : LL.length = 3 := by rw [hLL]; rfl
 have hLb : ∀ j, (LL.getD j []).length ≤ 20 ∧ ∀ x ∈ LL.getD j [], x.1.length ≤ 20 ∧ x.2.length ≤ 20 := by
  rw [hLL]
  exact Mk.three_bd ⟨by omega, fun x hx => by have := hlxX x hx; omega⟩ ⟨by omega, fun x hx => by have := hlbY.2 x hx; omega⟩ ⟨by have := hsB.1; omega, fun x hx => by have := hsB.2.2.1 x hx; omega⟩
 have hil := Wi.int_len9 0
 have hof := Sha.ofD_len 4 [Wi.int 0]
 have hr16 : ∀ ls, (Mk.rootE ls).1.length = 16 := Mk.rootE_16
 refine wp_seq_k ?_; intro K1 hK1
 refine reg hF hS (sq rfl (q_assign rfl) <|
   sq_end) ?_
 clear hF hS; intro a w hF hS
 refine hK1 _ _ ?_
 clear hK1
 refine wp_seq_k ?_; intro K2 hK2
 refine regl ?_
 refine wpl_sq hF hS (sq rfl (q_move rfl) <|
   sq_end) ?_
 clear hF hS; intro a w hF hS
 refine wpl_ef hF hS rfl (ef_call fn10 rfl (fun w hS => leaves_ct _ _ w (Sl.mono (hS.le zin0) hb1))) ?_
 clear hF hS; rintro v1 _ _ a w ⟨_, _, rfl, rfl, ⟨z2, hz3, rfl, rfl⟩⟩ hF hS
 (try rw [← hX] at hF); rw [← hX] at hz3
 replace hS : St _ [_] [] _ := hS
 refine wpl_sq hF hS (sq rfl (q_assign rfl) <|
   sq_end) ?_
 clear hF hS; intro a w hF hS
 refine wpList_nil ?_
 refine hK2 _ _ ?_
 clear hK2
 refine wp_seq_k ?_; intro K3 hK3
 refine regl ?_
 refine wpl_sq hF hS (sq rfl (q_move rfl) <|
   sq rfl (q_build1 ty54 4 kQ rfl (sl_one' hz3) rfl (by decide)) <|
   sq rfl (q_move rfl) <|
   sq rfl (q_call fn17 rfl (fun w hS => arnd_ct _ _ (by omega) (by omega) w ) (fun _ _ _ h => h)) <|
   sq rfl (q_addi rfl rfl (by omega)) <|
   sq rfl (q_move rfl) <|
   sq_end) ?_
 clear hF hS; intro a w hF hS
 refine wpl_ef hF hS rfl (ef_call fn28 rfl (fun w hS => bent_ct (⟨0, 0, X, []⟩ : Mk.Pf) _ _ _ _ (by omega) (by omega) hsX2 w (Sl.mono (hS.le (.inr (by simp))) hz3) sl_nil)) ?_
 clear hF hS; rintro _ _ _ a w ⟨_, _, rfl, rfl, ⟨l5, s6, z7, rfl, hl8, hs9, rfl, rfl⟩⟩ hF hS
 rw [← hB] at hF hl8 hs9
 replace hS : St _ [_, _] [] _ := hS
 refine wpl_ef hF hS rfl (ef_allocA ty54) ?_
 clear hF hS; rintro _ _ _ a w ⟨b10, rfl, rfl, rfl⟩ hF hS
 refine wpl_ef hF hS rfl (ef_storeW ty54 0 rfl rfl rfl rfl bQ (oc_cons rfl (oc_cons rfl (oc_cons (sl_one' hl8) (oc_cons (sl_one' hs9) oc_nil)))) bQ) ?_
 clear hF hS; rintro _ _ _ a w ⟨rfl, rfl, rfl⟩ hF hS
 replace hS : St _ [_, _] [_] _ := hS
 refine wpList_nil ?_
 refine hK3 _ _ ?_
 clear hK3
 refine wp_seq_k ?_; intro K4 hK4
 revert hS; revert hF; apply regJ (J := J3 (α0 := Value) (α1 := PH) (α2 := Value) 118 _ _ _ _ _) #[false, false, false, false, false, false, false] 7 mixed rfl rfl
 ·intro w hF hS
  refine goW_take 0 _ rfl kQ rfl hF (hS.keep sQ zQ) (q_move rfl) ?_
  clear hF; intro a hF
  refine goW_take 1 _ rfl kQ rfl hF (hS.keep sQ zQ) (q_move rfl) ?_
  clear hF; intro a hF
  refine goW_take 3 _ rfl kQ rfl hF (hS.keep sQ zQ) (q_fieldAddr ty54 rfl rfl (s' := 0) kQ) ?_
  clear hF; intro a hF
  refine goW_take 4 _ rfl kQ rfl hF (hS.keep sQ sQ) (q_ld_blk1 ty24 0 rfl rfl rfl rfl) ?_
  clear hF; intro a hF
  refine gQ 2 rfl rfl hF hS rfl (ef_call fn10 rfl (fun w hS => leaves_ct _ _ w (Sl.mono (hS.le zin0) hb2))) ?_
  clear hF hS; rintro v_3_2 _ _ a w ⟨_, _, rfl, rfl, ⟨z_3_2, hz_3_2, rfl, rfl⟩⟩ hF hS
  (try rw [← hY] at hF); rw [← hY] at hz_3_2
  replace hS : St _ [_, _, _] [_] _ := hS
  refine ⟨⟨.inr (hS.keep (sQ.n) sQ), .inr (hS.keep (sQ.n) zQ), iQ, .inr (hS.keep (sQ.n) zQ), trivial⟩, ?_⟩
  refine goW_fork [5] kQ rfl ⟨?_, trivial⟩
  have hoc_3_5 := (oc_cons (sl_one' hz3) (oc_cons (sl_one' hz_3_2) (oc_cons (sl_one' hl8) oc_nil)))
  refine stepW_ef _ rfl rfl hF hS rfl (ef_bsliceA ty27 ty24 rfl rfl (oc_cons (sl_one' hz3) (oc_cons (sl_one' hz_3_2) (oc_cons (sl_one' hl8) oc_nil))) (by decide) rfl rfl) ?_
  clear hF hS; rintro v_3_5 _ _ a w ⟨rfl, rfl⟩ hF hS
  refine ⟨⟨iQ, iQ, iQ, iQ, trivial⟩, ?_⟩
  refine goW_take 6 _ rfl kQ rfl hF (hS.keep sQ zQ) (q_assign rfl) ?_
  clear hF; intro a hF
  exact goW_done kQ (j3_mk v_3_2 z_3_2 v_3_5 ((And.intro hz_3_2 trivial)) (hF.sub (L' := [(11, _)]) ⟨rfl, trivial⟩) hS)
 rintro a w ⟨v_3_2, z_3_2, v_3_5, ⟨hz_3_2, -⟩, hF, hS⟩
 (try dsimp only at hF); (try dsimp only at hS)
 replace hS := hS.zone00
 replace hS : St _ [_, _, _, _] [_, _] _ := hS
 obtain ⟨zu, hzu, hS⟩ := hS.union
 obtain ⟨zL, hzL, hS⟩ := St.freezeSl (E := encF) (z' := zu) (xs := [X, Y, B.lv]) hS (by simp) rfl (by decide) ⟨Sl.mono (hzu _ (by simp)) hz3, Sl.mono (hzu _ (by simp)) hz_3_2, Sl.mono (hzu _ (by simp)) hl8, trivial⟩
 rw [← hLL] at hzL
 replace hS : St _ [_, _, _, _, _, _] [_] _ := hS
 refine hK4 _ _ ?_
 clear hK4
 refine wp_seq_k ?_; intro K5 hK5
 refine wp_seq_k ?_; intro K6 hK6
 refine reg hF hS (sq rfl (q_assign rfl) <|
   sq_end) ?_
 clear hF hS; intro a w hF hS
 refine hK6 _ _ ?_
 clear hK6
 refine wp_block ?_
 obtain ⟨hs0, hhs0, hS⟩ : ∃ h, h = _ ∧ St _ _ h _ := ⟨_, rfl, hS⟩
 refine wp_loopx (γ := Int) (0) (fun (i : Int) => [(12, vi i)]) [(11, _)] (fun (i : Int) => hs0) (fun (i : Int) => 0 ≤ i ∧ i ≤ 3) (fun (i : Int) => (3 - i).toNat) (hF.sub ⟨rfl, rfl, trivial⟩) (by subst hhs0; exact hS) (by exact ⟨Int.le_refl _, by omega⟩) ?_
 clear hF hS; rintro i a w hfact hF hS
 subst hhs0; (try dsimp only at hfact); (try dsimp only at hF); (try dsimp only at hS)
 obtain ⟨hi0, hi1⟩ := hfact
 replace hS : St _ [_, _, _, _, _, _] [_] _ := hS
 refine wp_seq_k ?_; intro K7 hK7
 refine wp_seq_k ?_; intro K8 hK8
 refine reg hF hS (sq rfl (q_move rfl) <|
   sq rfl (q_lti rfl rfl) <|
   sq_end) ?_
 clear hF hS; intro a w hF hS
 refine hK8 _ _ ?_
 clear hK8
 refine wp_ifd hF rfl (fun hc1 => ?_) (fun hc1 => ?_)
 ·refine wp_skip ?_
  refine hK7 _ _ ?_
  clear hK7
  refine wp_seq_k ?_; intro K9 hK9
  refine wp_block ?_
  refine wp_seq_k ?_; intro K10 hK10
  refine reg hF hS (sq rfl (q_assign rfl) <|
    sq_end) ?_
  clear hF hS; intro a w hF hS
  refine hK10 _ _ ?_
  clear hK10
  refine wp_block ?_
  obtain ⟨hs0, hhs0, hS⟩ : ∃ h, h = _ ∧ St _ _ h _ := ⟨_, rfl, hS⟩
  refine wp_loopx (γ := Int) (0) (fun (j : Int) => [(13, vi j)]) [(11, _), (12, _)] (fun (j : Int) => hs0) (fun (j : Int) => 0 ≤ j ∧ j ≤ i) (fun (j : Int) => (i - j).toNat) (hF.sub ⟨rfl, rfl, rfl, trivial⟩) (by subst hhs0; exact hS) (by exact ⟨Int.le_refl _, by omega⟩) ?_
  clear hF hS; rintro j a w hfact hF hS
  subst hhs0; (try dsimp only at hfact); (try dsimp only at hF); (try dsimp only at hS)
  obtain ⟨hj0, hj1⟩ := hfact
  replace hS : St _ [_, _, _, _, _, _] [_] _ := hS
  refine wp_seq_k ?_; intro K11 hK11
  refine wp_seq_k ?_; intro K12 hK12
  refine reg hF hS (sq rfl (q_move rfl) <|
    sq rfl (q_move rfl) <|
    sq rfl (q_lti rfl rfl) <|
    sq_end) ?_
  clear hF hS; intro a w hF hS
  refine hK12 _ _ ?_
  clear hK12
  refine wp_ifd hF rfl (fun hc2 => ?_) (fun hc2 => ?_)
  ·have hbi := hLb i.toNat
   have hbj := hLb j.toNat
   refine wp_skip ?_
   refine hK11 _ _ ?_
   clear hK11
   refine wp_seq_k ?_; intro K13 hK13
   refine wp_block ?_
   refine wp_seq_k ?_; intro K14 hK14
   refine regl ?_
   refine wpl_sq hF hS (sq rfl (q_move rfl) <|
     sq rfl (q_move rfl) <|
     sq rfl (q_idx_sl ty27 ty24 hzL rfl rfl (by omega)) <|
     sq rfl (q_ld_Sl ty24 hzL (.inr (by simp)) rfl rfl (by omega)) <|
     sq_end) ?_
   clear hF hS; intro a w hF hS
   refine wpl_ef hF hS rfl (ef_call fn13 rfl (fun w hS => own_ct _ _ (by first | with_reducible assumption | omega | (simp; omega)) w (Sl.mono (hS.le (.inr (by simp))) (elemV_sl hzL (by omega))))) ?_
   clear hF hS; rintro v11 _ _ a w ⟨_, _, rfl, rfl, ⟨z12, hz13, rfl, rfl⟩⟩ hF hS
   replace hS : St _ [_, _, _, _, _, _, _] [_] _ := hS
   refine wpl_sq hF hS (sq rfl (q_call fn12 rfl (fun w hS => mroot_ct _ _ w (Sl.mono (hS.le (.inr (by simp))) hz13) (hS.ext _ _ hg1)) (fun _ _ _ h => h)) <|
     sq rfl (q_move rfl) <|
     sq rfl (q_extract rfl rfl) <|
     sq rfl (q_extract rfl rfl) <|
     sq_end) ?_
   clear hF hS; intro a w hF hS
   refine wpl_ef hF hS rfl (ef_allocA ty29) ?_
   clear hF hS; rintro _ _ _ a w ⟨b14, rfl, rfl, rfl⟩ hF hS
   rw [show List.replicate 16 (Value.int .u8 0) = (List.replicate 16 (0 : UInt8)).map vb from by rw [List.map_replicate] <;> rfl] at hS
   refine wpl_ef hF hS rfl (ef_storeW ty29 0 rfl rfl rfl rfl bQ oQ bQ) ?_
   clear hF hS; rintro _ _ _ a w ⟨rfl, rfl, rfl⟩ hF hS
   replace hS : St _ [_, _, _, _, _, _, _] [_, _] _ := hS
   refine wpl_sq hF hS (sq rfl (q_assign rfl) <|
     sq_end) ?_
   clear hF hS; intro a w hF hS
   refine wpList_nil ?_
   refine hK14 _ _ ?_
   clear hK14
   refine wp_seq_k ?_; intro K15 hK15
   refine regl ?_
   refine wpl_sq hF hS (sq rfl (q_move rfl) <|
     sq rfl (q_move rfl) <|
     sq rfl (q_idx_sl ty27 ty24 hzL rfl rfl (by omega)) <|
     sq rfl (q_ld_Sl ty24 hzL (.inr (by simp)) rfl rfl (by omega)) <|
     sq_end) ?_
   clear hF hS; intro a w hF hS
   refine wpl_ef hF hS rfl (ef_call fn13 rfl (fun w hS => own_ct _ _ (by first | with_reducible assumption | omega | (simp; omega)) w (Sl.mono (hS.le (.inr (by simp))) (elemV_sl hzL (by omega))))) ?_
   clear hF hS; rintro v15 _ _ a w ⟨_, _, rfl, rfl, ⟨z16, hz17, rfl, rfl⟩⟩ hF hS
   replace hS : St _ [_, _, _, _, _, _, _, _] [_, _] _ := hS
   refine wpl_sq hF hS (sq rfl (q_call fn12 rfl (fun w hS => mroot_ct _ _ w (Sl.mono (hS.le (.inr (by simp))) hz17) (hS.ext _ _ hg1)) (fun _ _ _ h => h)) <|
     sq rfl (q_move rfl) <|
     sq rfl (q_extract rfl rfl) <|
     sq rfl (q_extract rfl rfl) <|
     sq_end) ?_
   clear hF hS; intro a w hF hS
   refine wpl_ef hF hS rfl (ef_allocA ty29) ?_
   clear hF hS; rintro _ _ _ a w ⟨b18, rfl, rfl, rfl⟩ hF hS
   rw [show List.replicate 16 (Value.int .u8 0) = (List.replicate 16 (0 : UInt8)).map vb from by rw [List.map_replicate] <;> rfl] at hS
   refine wpl_ef hF hS rfl (ef_storeW ty29 0 rfl rfl rfl rfl bQ oQ bQ) ?_
   clear hF hS; rintro _ _ _ a w ⟨rfl, rfl, rfl⟩ hF hS
   replace hS : St _ [_, _, _, _, _, _, _, _] [_, _, _] _ := hS
   refine wpl_sq hF hS (sq rfl (q_assign rfl) <|
     sq_end) ?_
   clear hF hS; intro a w hF hS
   refine wpList_nil ?_
   refine hK15 _ _ ?_
   clear hK15
   refine wp_seq_k ?_; intro K16 hK16
   refine wp_seq_k ?_; intro K17 hK17
   refine regl ?_
   refine wpl_sq hF hS (sq rfl (q_move rfl) <|
     sq rfl (q_nei rfl rfl) <|
     sq rfl (q_move rfl) <|
     sq_end) ?_
   clear hF hS; intro a w hF hS
   refine wpl_or 2 65 2 hF hS rfl rfl rfl rfl rfl (fun hg => have hg := (nd_false hg); sq_go 65 rfl rfl rfl (q_move rfl) <|
     sq_go 65 rfl rfl rfl (q_nei rfl rfl) <|
     sq_end) rfl rfl ?_
   clear hF hS; intro a w hF hS
   refine wpList_nil ?_
   refine hK17 _ _ ?_
   clear hK17
   refine wp_if hF rfl (fun hc3 => ?_) (fun hc3 => ?_)
   ·(try simp only [Bool.or_eq_true, Bool.and_eq_true, Bool.or_eq_false_iff, Bool.and_eq_false_iff, decide_eq_true_eq, decide_eq_false_iff_not, Bool.not_eq_true', Bool.not_eq_false'] at hc3)
    refine wp_exit ?_
    refine hK13 _ _ ?_
    clear hK13
    refine reg hF hS (sq rfl (q_move rfl) <|
      sq rfl (q_addi rfl rfl (by omega)) <|
      sq rfl (q_assign rfl) <|
      sq_end) ?_
    clear hF hS; intro a w hF hS
    replace hS := hS.keep (sQ.n.n) (sQ.n.n)
    refine ⟨(j + 1), ?_, ?_, hF.sub ⟨rfl, rfl, rfl, trivial⟩, ?_⟩
    ·(try dsimp only); omega
    ·(try dsimp only); omega
    ·exact hS
   ·(try simp only [Bool.or_eq_true, Bool.and_eq_true, Bool.or_eq_false_iff, Bool.and_eq_false_iff, decide_eq_true_eq, decide_eq_false_iff_not, Bool.not_eq_true', Bool.not_eq_false'] at hc3)
    refine wp_skip ?_
    refine hK16 _ _ ?_
    clear hK16
    refine wp_seq_k ?_; intro K18 hK18
    revert hS; revert hF; apply regJ (J := J1 (α0 := Nat) 118 _ _ _ _ _) #[false, false, false, false, false, false, false, false, false, false, false, false] 12 mixed rfl rfl
    ·intro w hF hS
     refine goW_take 0 _ rfl kQ rfl hF (hS.keep sQ zQ) (q_move rfl) ?_
     clear hF; intro a hF
     refine goW_take 1 _ rfl kQ rfl hF (hS.keep sQ zQ) (q_move rfl) ?_
     clear hF; intro a hF
     refine goW_take 2 _ rfl kQ rfl hF (hS.keep sQ zQ) (q_idx_sl ty27 ty24 hzL rfl rfl (by omega)) ?_
     clear hF; intro a hF
     refine goW_take 3 _ rfl kQ rfl hF (hS.keep sQ zQ) (q_ld_Sl ty24 hzL (.inr (by simp)) rfl rfl (by omega)) ?_
     clear hF; intro a hF
     refine goW_take 4 _ rfl kQ rfl hF (hS.keep sQ zQ) (q_len_sl ty24 (elemV_sl hzL (by omega)) rfl) ?_
     clear hF; intro a hF
     refine goW_take 5 _ rfl kQ rfl hF (hS.keep sQ zQ) (q_move rfl) ?_
     clear hF; intro a hF
     refine goW_take 6 _ rfl kQ rfl hF (hS.keep sQ zQ) (q_move rfl) ?_
     clear hF; intro a hF
     refine goW_take 7 _ rfl kQ rfl hF (hS.keep sQ zQ) (q_idx_sl ty27 ty24 hzL rfl rfl (by omega)) ?_
     clear hF; intro a hF
     refine goW_take 8 _ rfl kQ rfl hF (hS.keep sQ zQ) (q_ld_Sl ty24 hzL (.inr (by simp)) rfl rfl (by omega)) ?_
     clear hF; intro a hF
     refine goW_take 9 _ rfl kQ rfl hF (hS.keep sQ zQ) (q_buildP (places := [(0, 1), (1, 1), (2, 1), (3, 1)]) (cells := [.int .i64 0, _, _, .slice none 0 0]) ty54 kQ rfl (fill_stepL (c := [_]) (l := [_, _, _, _]) (l' := [_, _, _, _]) rfl (cells_one rfl) rfl (Nat.le_of_ble_eq_true rfl) rfl (fill_stepL (c := [_]) (l := [_, _, _, _]) (l' := [_, _, _, _]) rfl (cells_one (sl_one' (elemV_sl hzL (by omega)))) rfl (Nat.le_of_ble_eq_true rfl) rfl (fill_endL rfl)))) ?_
     clear hF; intro a hF
     refine gQ 10 rfl rfl hF hS rfl (ef_allocA ty54) ?_
     clear hF hS; rintro _ _ _ a w ⟨b_13_10, rfl, rfl, rfl⟩ hF hS
     refine ⟨⟨.inr (hS.keep sQ zQ), .inr (hS.keep sQ zQ), .inr (hS.keep sQ zQ), .inr (hS.keep sQ zQ), .inr (hS.keep sQ zQ), .inr (hS.keep sQ zQ), .inr (hS.keep sQ zQ), .inr (hS.keep sQ zQ), .inr (hS.keep sQ zQ), .inr (hS.keep sQ zQ), trivial⟩, ?_⟩
     refine gQ 11 rfl rfl hF hS rfl (ef_storeW ty54 0 rfl rfl rfl rfl bQ (oc_cons rfl (oc_cons rfl (oc_cons (sl_one' (elemV_sl hzL (by omega))) (oc_cons rfl oc_nil)))) bQ) ?_
     clear hF hS; rintro _ _ _ a w ⟨rfl, rfl, rfl⟩ hF hS
     refine ⟨⟨iQ, iQ, iQ, iQ, iQ, iQ, iQ, iQ, iQ, iQ, trivial⟩, ?_⟩
     exact goW_done kQ (j1_mk b_13_10 (trivial) (hF.sub (L' := [(11, _), (12, _), (13, _), (14, _), (16, _), (18, _)]) ⟨rfl, rfl, rfl, rfl, rfl, rfl, trivial⟩) hS)
    rintro a w ⟨b_13_10, -, hF, hS⟩
    (try dsimp only at hF); (try dsimp only at hS)
    refine hK18 _ _ ?_
    clear hK18
    refine wp_seq_k ?_; intro K19 hK19
    refine regq mixed kQ hS ?_
    refine wpq_seg hF (sq rfl (q_ld_blkW ty29 2 rfl rfl bQ rfl) <|
      sq rfl (q_ld_blkW ty29 1 rfl rfl bQ rfl) <|
      sq rfl (q_eqAB ty29 ty5 kQ rfl rfl bQ bQ) <|
      sq rfl (q_move rfl) <|
      sq rfl (q_move rfl) <|
      sq rfl (q_idx_sl ty27 ty24 hzL rfl rfl (by omega)) <|
      sq rfl (q_ld_Sl ty24 hzL (.inr (by simp)) rfl rfl (by omega)) <|
      sq rfl (q_move rfl) <|
      sq rfl (q_move rfl) <|
      sq rfl (q_idx_sl ty27 ty24 hzL rfl rfl (by omega)) <|
      sq rfl (q_ld_Sl ty24 hzL (.inr (by simp)) rfl rfl (by omega)) <|
      sq rfl (q_call fn34 rfl (fun w hS => samel_ct _ _ _ _ w (Sl.mono (hS.le (.inr (by simp))) (elemV_sl hzL (by omega))) (Sl.mono (hS.le (.inr (by simp))) (elemV_sl hzL (by omega)))) (fun _ _ _ h => h)) <|
      sq rfl (q_net ty4 rfl rfl) <|
      sq rfl (q_move rfl) <|
      sq_end) ?_
    clear hF; intro a hF
    refine wpq_and 13 92 7 hF rfl rfl rfl rfl rfl (fun hg => have hg := hg; sq_go 92 rfl rfl rfl (q_move rfl) <|
      sq_go 92 rfl rfl rfl (q_move rfl) <|
      sq_go 92 rfl rfl rfl (q_idx_sl ty27 ty24 hzL rfl rfl (by omega)) <|
      sq_go 92 rfl rfl rfl (q_ld_Sl ty24 hzL (.inr (by simp)) rfl rfl (by omega)) <|
      sq_go 92 rfl rfl rfl (q_ld_blkW ty54 0 rfl rfl bQ rfl) <|
      sq_go 92 rfl rfl rfl (q_call fn37 rfl (fun w hS => coll_ct _ (LL.getD i.toNat []) (⟨0, ((LL.getD j.toNat []).length : Int), (LL.getD j.toNat []), []⟩ : Mk.Pf) _ _ (by omega) (fun x hx => by have := (hLb i.toNat).2 x hx; omega) (fun x hx => by have := (hLb j.toNat).2 x hx; omega) (by show (LL.getD j.toNat []).length < 1048576; omega) w (Sl.mono (hS.le (.inr (by simp))) (elemV_sl hzL (by omega))) (Sl.mono (hS.le (.inr (by simp))) (elemV_sl hzL (by omega))) sl_nil (hS.ext _ _ hg0)) (fun _ _ _ h => h)) <|
      sq_go 92 rfl rfl rfl (q_not rfl) <|
      sq_end) rfl rfl ?_
    clear hF; intro a hF
    refine wpq_nil ?_
    clear hS; intro w hS
    refine hK19 _ _ ?_
    clear hK19
    refine wp_if hF rfl (fun hc4 => ?_) (fun hc4 => ?_)
    ·(try simp only [Bool.or_eq_true, Bool.and_eq_true, Bool.or_eq_false_iff, Bool.and_eq_false_iff, decide_eq_true_eq, decide_eq_false_iff_not, Bool.not_eq_true', Bool.not_eq_false'] at hc4)
     exfalso
     have hvi : Mk.vE (LL.getD i.toNat []) = 0 := by rw [← Mk.rootE_2]; exact hc3.1
     have hvj : Mk.vE (LL.getD j.toNat []) = 0 := by rw [← Mk.rootE_2]; exact hc3.2
     exact Mk.bind_no hvi hvj (fun x hx => by have := hbi.2 x hx; omega) (fun x hx => by have := hbj.2 x hx; omega) (by rw [hc4.1]; rfl) hc4.2
    ·(try simp only [Bool.or_eq_true, Bool.and_eq_true, Bool.or_eq_false_iff, Bool.and_eq_false_iff, decide_eq_true_eq, decide_eq_false_iff_not, Bool.not_eq_true', Bool.not_eq_false'] at hc4)
     refine wp_skip ?_
     refine hK13 _ _ ?_
     clear hK13
     refine reg hF hS (sq rfl (q_move rfl) <|
       sq rfl (q_addi rfl rfl (by omega)) <|
       sq rfl (q_assign rfl) <|
       sq_end) ?_
     clear hF hS; intro a w hF hS
     replace hS := hS.keep (sQ.n.n) (sQ.n.n.n)
     refine ⟨(j + 1), ?_, ?_, hF.sub ⟨rfl, rfl, rfl, trivial⟩, ?_⟩
     ·(try dsimp only); omega
     ·(try dsimp only); omega
     ·exact hS
  ·refine wp_exit ?_
   refine hK9 _ _ ?_
   clear hK9
   refine reg hF hS (sq rfl (q_move rfl) <|
     sq rfl (q_addi rfl rfl (by omega)) <|
     sq rfl (q_assign rfl) <|
     sq_end) ?_
   clear hF hS; intro a w hF hS
   refine ⟨(i + 1), ?_, ?_, hF.sub ⟨rfl, rfl, trivial⟩, ?_⟩
   ·(try dsimp only); omega
   ·(try dsimp only); omega
   ·exact hS
 ·refine wp_exit ?_
  refine hK5 _ _ ?_
  clear hK5
  refine wp_seq_k ?_; intro K20 hK20
  refine regl ?_
  refine wpl_sq hF hS (sq rfl (q_call fn12 rfl (fun w hS => mroot_ct _ [] w sl_nil (hS.ext _ _ hg1)) (fun _ _ _ h => h)) <|
    sq rfl (q_move rfl) <|
    sq rfl (q_extract rfl rfl) <|
    sq rfl (q_extract rfl rfl) <|
    sq_end) ?_
  clear hF hS; intro a w hF hS
  refine wpl_ef hF hS rfl (ef_allocA ty29) ?_
  clear hF hS; rintro _ _ _ a w ⟨b19, rfl, rfl, rfl⟩ hF hS
  rw [show List.replicate 16 (Value.int .u8 0) = (List.replicate 16 (0 : UInt8)).map vb from by rw [List.map_replicate] <;> rfl] at hS
  refine wpl_ef hF hS rfl (ef_storeW ty29 0 rfl rfl rfl rfl bQ oQ bQ) ?_
  clear hF hS; rintro _ _ _ a w ⟨rfl, rfl, rfl⟩ hF hS
  replace hS : St _ [_, _, _, _, _, _] [_, _] _ := hS
  refine wpl_sq hF hS (sq rfl (q_assign rfl) <|
    sq_end) ?_
  clear hF hS; intro a w hF hS
  refine wpList_nil ?_
  rw [Mk.rootE_nil] at hF hS; (try dsimp only at hF); (try dsimp only at hS)
  refine hK20 _ _ ?_
  clear hK20
  refine wp_seq_k ?_; intro K21 hK21
  revert hS; revert hF; apply regJ (J := J2 (α0 := Value) (α1 := Value) 118 _ _ _ _ _) #[false, false, false, false, false, false, false, false, false, false, false, false, false, false] 14 mixed rfl rfl
  ·intro w hF hS
   refine goW_take 0 _ rfl kQ rfl hF (hS.keep sQ zQ) (q_move rfl) ?_
   clear hF; intro a hF
   refine goW_take 1 _ rfl kQ rfl hF (hS.keep sQ zQ) (q_dt (q_eqi rfl rfl) (by simp)) ?_
   clear hF; intro a hF
   refine goW_take 2 _ rfl kQ rfl hF (hS.keep sQ zQ) (q_move rfl) ?_
   clear hF; intro a hF
   refine goW_takeg 3 _ rfl (wanted_go 107 rfl rfl) kQ rfl hF (hS.keep sQ (zQ.k)) (q_ld_blkW ty29 0 rfl rfl bQ rfl) ?_
   clear hF; intro a hF
   refine goW_fork [4] kQ rfl ⟨?_, trivial⟩
   refine stepW_efg _ rfl (wanted_go 107 rfl rfl) rfl hF hS rfl (ef_call fn39 rfl (fun w hS => wint_ct _ w )) ?_
   clear hF hS; rintro v_17_4 _ _ a w ⟨_, _, rfl, rfl, rfl, rfl⟩ hF hS
   refine ⟨⟨.inr (hS.keep sQ (zQ.k.n)), iQ, iQ, .inr (hS.keep sQ zQ), trivial⟩, ?_⟩
   refine goW_takeg 5 _ rfl (wanted_go 107 rfl rfl) kQ rfl hF (hS.keep sQ (zQ.k)) (q_b2s_row ty39 ty9 ty5 0 rfl rfl) ?_
   clear hF; intro a hF
   refine goW_fork [6] kQ rfl ⟨?_, trivial⟩
   refine stepW_efg _ rfl (wanted_go 107 rfl rfl) rfl hF hS rfl (ef_bsliceA ty47 ty9 rfl rfl oQ (by decide) rfl rfl) ?_
   clear hF hS; rintro v_17_6 _ _ a w ⟨rfl, rfl⟩ hF hS
   refine ⟨⟨iQ, .inr (hS.keep sQ (zQ.k.n.n)), iQ, iQ, .inr (hS.keep sQ zQ), trivial⟩, ?_⟩
   refine goW_fork [7] kQ rfl ⟨?_, trivial⟩
   refine stepW_efg _ rfl (wanted_go 107 rfl rfl) rfl hF hS rfl (ef_qt (q_call fn38 rfl (fun w hS => rof_ct _ _ _ (by simp; omega) (by simp) w (own_slV (f := vs) (xs := [Wi.int 0]) (hS.own _ (List.mem_of_getElem? (i := 0) rfl)).1 (by simp; omega) rfl (by decide)) (hS.ext _ _ hg0)) (fun _ _ _ h => h))) ?_
   clear hF hS; rintro _ _ _ a w ⟨rfl, rfl, rfl⟩ hF hS
   refine ⟨⟨iQ, .inr (hS.keep sQ (zQ.k.n.n)), iQ, iQ, .inr (hS.keep sQ zQ), trivial⟩, ?_⟩
   refine goW_takeg 8 _ rfl (wanted_go 107 rfl rfl) kQ rfl hF (hS.keep sQ zQ) (q_dt (q_eqAB ty29 ty5 kQ rfl rfl bQ bQ) (rfl)) ?_
   clear hF; intro a hF
   refine goW_take 9 _ rfl kQ rfl hF (hS.keep sQ zQ) (q_pick_t rfl rfl) ?_
   clear hF; intro a hF
   refine goW_take 10 _ rfl kQ rfl hF (hS.keep sQ zQ) (q_move rfl) ?_
   clear hF; intro a hF
   refine goW_fork [11] kQ rfl ⟨?_, trivial⟩
   refine stepW_efg _ rfl (wanted_go 115 rfl rfl) rfl hF hS rfl (ef_qt (q_call fn19 rfl (fun w hS => lives_ct w (hS.ext _ _ hg1)) (fun _ _ _ h => h))) ?_
   clear hF hS; rintro _ _ _ a w ⟨rfl, rfl, rfl⟩ hF hS
   refine ⟨⟨iQ, iQ, .inr (hS.keep sQ zQ), iQ, .inr (hS.keep sQ (zQ.k.n.n)), iQ, iQ, .inr (hS.keep sQ zQ), trivial⟩, ?_⟩
   refine goW_take 12 _ rfl kQ rfl hF (hS.keep sQ zQ) (q_pick_t rfl rfl) ?_
   clear hF; intro a hF
   refine goW_take 13 _ rfl kQ rfl hF (hS.keep sQ zQ) (q_assign rfl) ?_
   clear hF; intro a hF
   exact goW_done kQ (j2_mk v_17_4 v_17_6 (trivial) (hF.sub (L' := [(8, _)]) ⟨rfl, trivial⟩) hS)
  rintro a w ⟨v_17_4, v_17_6, -, hF, hS⟩
  (try dsimp only at hF); (try dsimp only at hS)
  refine hK21 _ _ ?_
  clear hK21
  refine wp_ret ?_
  exact fn_ret (rs := [.tmp 8]) rfl hF hS (vs := [_]) ⟨rfl, trivial⟩ zQ zQ (rfl)
end Go.Proofs.YtdojfnigffeblaaDoor
