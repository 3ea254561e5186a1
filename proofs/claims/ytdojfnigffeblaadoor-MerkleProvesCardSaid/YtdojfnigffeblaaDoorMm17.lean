/- A text of a proof over this seat: walks over the program's functions and the plain laws that they need. -/
import Derived.Test.YtdojfnigffeblaaDoorMm16
import Derived.Test.YtdojfnigffeblaaDoorMkA
import Derived.Test.YtdojfnigffeblaaDoorFwD
import Derived.Test.YtdojfnigffeblaaDoorFwB
set_option linter.all false
namespace Go.Proofs.YtdojfnigffeblaaDoor
open Go.Fw
theorem fn11 : FnOk Tryd.prog 11 := ⟨_, Tryd.func11, rfl, by kernel_rfl⟩
theorem fn26 : FnOk Tryd.prog 26 := ⟨_, Tryd.func26, rfl, by kernel_rfl⟩
theorem fn27 : FnOk Tryd.prog 27 := ⟨_, Tryd.func27, rfl, by kernel_rfl⟩

attribute [local irreducible] Sha.sum Sha.mac Sha.ofD Wi.int Wi.ints Wi.bytes Sha.inp Mk.half Lib.compareBytes Mk.frm Mk.rootD Mk.provE Mk.rangE Mk.rootE Mk.chkE Mk.chkR Mk.shown Mk.leavesL Mk.keyL Mk.keyB Mk.hasI Mk.inside Mk.bent Mk.coll Mk.vE Mk.rowD Gu.arnd

set_option maxRecDepth 4000 in
set_option maxHeartbeats 2000000 in
theorem mlaw2_ct (v1 v2 : Value) (l : List Int) (rr9 : List Mk.Lf) (k m : Int) (nm9 : List UInt8) (hk9 : -9223372036854775808 ≤ k ∧ k ≤ 9223372036854775807) (hm9 : -9223372036854775808 ≤ m ∧ m ≤ 9223372036854775807) (w : World) (hb1 : Sl encI (ph w) v1 l) (hb2 : Sl encF (ph w) v2 rr9) {fz0 : Nat × Nat} {bt0 : TypeId} (hg0 : w.heap[0]? = some (.cells (Sha.kc.map vw).toArray bt0 fz0)) {fz1 : Nat × Nat} {bt1 : TypeId} (hg1 : w.heap[2]? = some (.cells (Sha.kc.map vw).toArray bt1 fz1)) : Ct Tryd.prog 4 [v1, v2, vi k, vi m, vs nm9] w (fun r _ _ => r = .bool true) := by
 refine fn_enter Tryd.func4 rfl Tryd.ntmps4 (Nat.le_of_ble_eq_true rfl) fun a hF hS => ?_
 obtain ⟨X, hX⟩ : ∃ x, x = Mk.leavesL l := ⟨_, rfl⟩
 have hlbX := Mk.leaves_bd l
 have hvX := Mk.leaves_vE l
 rw [← hX] at hlbX hvX
 obtain ⟨hlnX, hlxX⟩ := hlbX
 obtain ⟨rtX, hrtX⟩ : ∃ x, x = (Mk.rootE X).1 := ⟨_, rfl⟩
 have hrlX : rtX.length = 16 := by rw [hrtX, Mk.rootE_n hvX]; exact Mk.rootD_16 _ _
 have hroX : Mk.rootE X = (rtX, 0) := by rw [hrtX, Mk.rootE_n hvX]
 have hrnX : (Mk.rootE X).1.length = 16 := by rw [← hrtX]; exact hrlX
 obtain ⟨R, hR⟩ : ∃ x, x = Mk.leavesR rr9 := ⟨_, rfl⟩
 have hlbR := Mk.leavesR_bd rr9
 rw [← hR] at hlbR
 obtain ⟨LL, hLL⟩ : ∃ x, x = [X, R, []] := ⟨_, rfl⟩
 have hLn : LL.length = 3 := by rw [hLL]; rfl
 have hLb : ∀ j, (LL.getD j []).length ≤ 20 ∧ ∀ x ∈ LL.getD j [], x.1.length ≤ 40 ∧ x.2.length ≤ 40 := by
  rw [hLL]
  exact Mk.three_bd ⟨by omega, fun x hx => by have := hlxX x hx; omega⟩ ⟨by have := hlbR.1; omega, fun x hx => by have := hlbR.2 x hx; omega⟩ ⟨Nat.zero_le _, fun x hx => by cases hx⟩
 refine wp_seq_k ?_; intro K1 hK1
 refine reg hF hS (sq rfl (q_assign rfl) <|
   sq_end) ?_
 clear hF hS; intro a w hF hS
 refine hK1 _ _ ?_
 clear hK1
 refine wp_seq_k ?_; intro K2 hK2
 refine regl ?_
 refine wpl_sq hF hS (sq rfl (q_move rfl) <|
   sq_end) ?_
 clear hF hS; intro a w hF hS
 refine wpl_ef hF hS rfl (ef_call fn10 rfl (fun w hS => leaves_ct _ _ w (Sl.mono (hS.le zin0) hb1))) ?_
 clear hF hS; rintro v1 _ _ a w ⟨_, _, rfl, rfl, ⟨z2, hz3, rfl, rfl⟩⟩ hF hS
 (try rw [← hX] at hF); rw [← hX] at hz3
 replace hS : St _ [_] [] _ := hS
 refine wpl_sq hF hS (sq rfl (q_move rfl) <|
   sq_end) ?_
 clear hF hS; intro a w hF hS
 refine wpl_ef hF hS rfl (ef_call fn11 rfl (fun w hS => leavesR_ct _ _ w (Sl.mono (hS.le zin0) hb2))) ?_
 clear hF hS; rintro v4 _ _ a w ⟨_, _, rfl, rfl, ⟨z5, hz6, rfl, rfl⟩⟩ hF hS
 (try rw [← hR] at hF); rw [← hR] at hz6
 replace hS : St _ [_, _] [] _ := hS
 have hoc9 := (oc_cons (sl_one' hz3) (oc_cons (sl_one' hz6) (oc_cons (show (Value.slice none 0 0).oneCell' = true from rfl) oc_nil)))
 refine wpl_ef hF hS rfl (ef_bsliceA ty27 ty24 rfl rfl (oc_cons (sl_one' hz3) (oc_cons (sl_one' hz6) (oc_cons (show (Value.slice none 0 0).oneCell' = true from rfl) oc_nil))) (by decide) rfl rfl) ?_
 clear hF hS; rintro v7 _ _ a w ⟨rfl, rfl⟩ hF hS
 replace hS : St _ [_, _] [_] _ := hS
 refine wpl_sq hF hS (sq rfl (q_assign rfl) <|
   sq_end) ?_
 clear hF hS; intro a w hF hS
 refine wpList_nil ?_
 replace hS := hS.zone00
 replace hS : St _ [_, _, _] [_] _ := hS
 obtain ⟨zu, hzu, hS⟩ := hS.union
 obtain ⟨zL, hzL, hS⟩ := St.freezeSl (E := encF) (z' := zu) (xs := [X, R, []]) hS (by simp) rfl (by decide) ⟨Sl.mono (hzu _ (by simp)) hz3, Sl.mono (hzu _ (by simp)) hz6, sl_nil, trivial⟩
 rw [← hLL] at hzL
 replace hS : St _ [_, _, _, _, _] [] _ := hS
 refine hK2 _ _ ?_
 clear hK2
 refine wp_seq_k ?_; intro K3 hK3
 refine wp_seq_k ?_; intro K4 hK4
 refine reg hF hS (sq rfl (q_assign rfl) <|
   sq_end) ?_
 clear hF hS; intro a w hF hS
 refine hK4 _ _ ?_
 clear hK4
 refine wp_block ?_
 obtain ⟨hs0, hhs0, hS⟩ : ∃ h, h = _ ∧ St _ _ h _ := ⟨_, rfl, hS⟩
 refine wp_loopx (γ := Int) (0) (fun (i : Int) => [(12, vi i)]) [(2, _), (3, _), (4, _), (11, _)] (fun (i : Int) => hs0) (fun (i : Int) => 0 ≤ i ∧ i ≤ 3) (fun (i : Int) => (3 - i).toNat) (hF.sub ⟨rfl, rfl, rfl, rfl, rfl, trivial⟩) (by subst hhs0; exact hS) (by exact ⟨Int.le_refl _, by omega⟩) ?_
 clear hF hS; rintro i a w hfact hF hS
 subst hhs0; (try dsimp only at hfact); (try dsimp only at hF); (try dsimp only at hS)
 obtain ⟨hi0, hi1⟩ := hfact
 replace hS : St _ [_, _, _, _, _] [] _ := hS
 refine wp_seq_k ?_; intro K5 hK5
 refine wp_seq_k ?_; intro K6 hK6
 refine reg hF hS (sq rfl (q_move rfl) <|
   sq rfl (q_move rfl) <|
   sq rfl (q_len_sl ty27 hzL rfl) <|
   sq rfl (q_lti rfl rfl) <|
   sq_end) ?_
 clear hF hS; intro a w hF hS
 refine hK6 _ _ ?_
 clear hK6
 refine wp_ifd hF rfl (fun hc1 => ?_) (fun hc1 => ?_)
 ·have hbi := hLb i.toNat
  obtain ⟨ka, hka⟩ : ∃ x, x = Mk.keyL (LL.getD i.toNat []) k := ⟨_, rfl⟩
  obtain ⟨kb, hkb⟩ : ∃ x, x = Mk.keyL (LL.getD i.toNat []) m := ⟨_, rfl⟩
  have hkla : ka.length ≤ 43 := by rw [hka]; exact Mk.keyL_len (fun x hx => (hbi.2 x hx).1) _
  have hklb : kb.length ≤ 43 := by rw [hkb]; exact Mk.keyL_len (fun x hx => (hbi.2 x hx).1) _
  obtain ⟨KK, hKK⟩ : ∃ x, x = [ka, kb, nm9.take 30] := ⟨_, rfl⟩
  have hKn : KK.length = 3 := by rw [hKK]; rfl
  refine wp_skip ?_
  refine hK5 _ _ ?_
  clear hK5
  refine wp_seq_k ?_; intro K7 hK7
  refine wp_block ?_
  refine wp_seq_k ?_; intro K8 hK8
  refine reg hF hS (sq rfl (q_move rfl) <|
    sq rfl (q_move rfl) <|
    sq rfl (q_idx_sl ty27 ty24 hzL rfl rfl (by omega)) <|
    sq rfl (q_ld_Sl ty24 hzL (.inr (by simp)) rfl rfl (by omega)) <|
    sq rfl (q_move rfl) <|
    sq rfl (q_call fn20 rfl (fun w hS => keyL_ct _ _ _ (by omega) (fun x hx => by have := hbi.2 x hx; omega) (by omega) w (Sl.mono (hS.le (.inr (by simp))) (elemV_sl hzL (by omega)))) (fun _ _ _ h => h)) <|
    sq rfl (q_assign rfl) <|
    sq_end) ?_
  clear hF hS; intro a w hF hS
  (try rw [← hka] at hF)
  refine hK8 _ _ ?_
  clear hK8
  refine wp_seq_k ?_; intro K9 hK9
  refine reg hF hS (sq rfl (q_move rfl) <|
    sq rfl (q_move rfl) <|
    sq rfl (q_idx_sl ty27 ty24 hzL rfl rfl (by omega)) <|
    sq rfl (q_ld_Sl ty24 hzL (.inr (by simp)) rfl rfl (by omega)) <|
    sq rfl (q_move rfl) <|
    sq rfl (q_call fn20 rfl (fun w hS => keyL_ct _ _ _ (by omega) (fun x hx => by have := hbi.2 x hx; omega) (by omega) w (Sl.mono (hS.le (.inr (by simp))) (elemV_sl hzL (by omega)))) (fun _ _ _ h => h)) <|
    sq rfl (q_assign rfl) <|
    sq_end) ?_
  clear hF hS; intro a w hF hS
  (try rw [← hkb] at hF)
  refine hK9 _ _ ?_
  clear hK9
  refine wp_seq_k ?_; intro K10 hK10
  refine regl ?_
  refine wpl_sq hF hS (sq rfl (q_move rfl) <|
    sq rfl (q_move rfl) <|
    sq rfl (q_move rfl) <|
    sq rfl (q_call fn21 rfl (fun w hS => short_ct _ _ 30 rfl w ) (fun _ _ _ h => h)) <|
    sq_end) ?_
  clear hF hS; intro a w hF hS
  refine wpl_ef hF hS rfl (ef_bsliceA ty47 ty9 rfl rfl oQ (by decide) rfl rfl) ?_
  clear hF hS; rintro v10 _ _ a w ⟨rfl, rfl⟩ hF hS
  replace hS : St _ [_, _, _, _, _] [_] _ := hS
  refine wpl_sq hF hS (sq rfl (q_assign rfl) <|
    sq_end) ?_
  clear hF hS; intro a w hF hS
  refine wpList_nil ?_
  obtain ⟨zK, hzK, hS⟩ := St.freezeV (h0 := fun _ => rfl) (f := vs) (p := fun s => s.length ≤ 140737488355328) (xs := [ka, kb, nm9.take 30]) hS (by first | rfl | (simp; done)) (by decide) (Mk.three_k (by omega) (by omega) (by rw [List.length_take]; omega))
  rw [← hKK] at hzK
  replace hS : St _ [_, _, _, _, _, _] [] _ := hS
  refine hK10 _ _ ?_
  clear hK10
  refine wp_seq_k ?_; intro K11 hK11
  refine reg hF hS (sq rfl (q_assign rfl) <|
    sq_end) ?_
  clear hF hS; intro a w hF hS
  refine hK11 _ _ ?_
  clear hK11
  refine wp_block ?_
  obtain ⟨hs0, hhs0, hS⟩ : ∃ h, h = _ ∧ St _ _ h _ := ⟨_, rfl, hS⟩
  refine wp_loopx (γ := Int) (0) (fun (j : Int) => [(16, vi j)]) [(2, _), (3, _), (4, _), (11, _), (12, _), (13, _), (15, _)] (fun (j : Int) => hs0) (fun (j : Int) => 0 ≤ j ∧ j ≤ 3) (fun (j : Int) => (3 - j).toNat) (hF.sub ⟨rfl, rfl, rfl, rfl, rfl, rfl, rfl, rfl, trivial⟩) (by subst hhs0; exact hS) (by exact ⟨Int.le_refl _, by omega⟩) ?_
  clear hF hS; rintro j a w hfact hF hS
  subst hhs0; (try dsimp only at hfact); (try dsimp only at hF); (try dsimp only at hS)
  obtain ⟨hj0, hj1⟩ := hfact
  replace hS : St _ [_, _, _, _, _, _] [] _ := hS
  refine wp_seq_k ?_; intro K12 hK12
  refine wp_seq_k ?_; intro K13 hK13
  refine reg hF hS (sq rfl (q_move rfl) <|
    sq rfl (q_lti rfl rfl) <|
    sq_end) ?_
  clear hF hS; intro a w hF hS
  refine hK13 _ _ ?_
  clear hK13
  refine wp_ifd hF rfl (fun hc2 => ?_) (fun hc2 => ?_)
  ·obtain ⟨pj, ej, hpj⟩ : ∃ x y, Mk.provE (LL.getD i.toNat []) (KK.getD j.toNat []) = (x, y) := ⟨_, _, rfl⟩
   obtain ⟨rj, gj, hrj⟩ : ∃ x y, Mk.rangE (LL.getD i.toNat []) ka (KK.getD j.toNat []) = (x, y) := ⟨_, _, rfl⟩
   have hsj := (Mk.prov_sm hbi.2 (KK.getD j.toNat [])).1
   have hsr := (Mk.rang_sm hbi.2 ka (KK.getD j.toNat [])).1
   rw [hpj] at hsj
   rw [hrj] at hsr
   dsimp only at hsj hsr
   refine wp_skip ?_
   refine hK12 _ _ ?_
   clear hK12
   refine wp_seq_k ?_; intro K14 hK14
   refine wp_block ?_
   refine wp_seq_k ?_; intro K15 hK15
   revert hS; revert hF; apply regJ (J := J6 (α0 := Value) (α1 := PH) (α2 := Value) (α3 := Value) (α4 := PH) (α5 := Nat) 132 _ _ _ _ _) #[false, false, false, false, false, false, false, false, false, false, false, false, false, false, false, false] 16 mixed rfl rfl
   ·intro w hF hS
    refine goW_take 0 _ rfl kQ rfl hF (hS.keep sQ zQ) (q_move rfl) ?_
    clear hF; intro a hF
    refine goW_take 1 _ rfl kQ rfl hF (hS.keep sQ zQ) (q_move rfl) ?_
    clear hF; intro a hF
    refine goW_take 2 _ rfl kQ rfl hF (hS.keep sQ zQ) (q_idx_sl ty27 ty24 hzL rfl rfl (by omega)) ?_
    clear hF; intro a hF
    refine goW_take 3 _ rfl kQ rfl hF (hS.keep sQ zQ) (q_ld_Sl ty24 hzL (.inr (by simp)) rfl rfl (by omega)) ?_
    clear hF; intro a hF
    refine goW_take 5 _ rfl kQ rfl hF (hS.keep sQ zQ) (q_move rfl) ?_
    clear hF; intro a hF
    refine goW_take 6 _ rfl kQ rfl hF (hS.keep sQ zQ) (q_move rfl) ?_
    clear hF; intro a hF
    refine goW_take 7 _ rfl kQ rfl hF (hS.keep sQ zQ) (q_idx_sl ty47 ty9 hzK rfl rfl (by omega)) ?_
    clear hF; intro a hF
    refine goW_take 8 _ rfl kQ rfl hF (hS.keep sQ zQ) (q_ld_S ty9 hzK (.inr (by simp)) rfl rfl (by omega)) ?_
    clear hF; intro a hF
    refine goW_fork [4, 13] kQ rfl ⟨?_, ?_, trivial⟩
    ·refine stepW_ef _ rfl rfl hF hS rfl (ef_call fn13 rfl (fun w hS => own_ct _ _ (by omega) w (Sl.mono (hS.le (.inr (by simp))) (elemV_sl hzL (by omega))))) ?_
     clear hF hS; rintro v_11_4 _ _ a w ⟨_, _, rfl, rfl, ⟨z_11_4, hz_11_4, rfl, rfl⟩⟩ hF hS
     refine ⟨⟨.inr (hS.keep (sQ.n) zQ), .inr (hS.keep (sQ.n) zQ), .inr (hS.keep (sQ.n) zQ), .inr (hS.keep (sQ.n) zQ), iQ, iQ, .inr (hS.keep (sQ.n) zQ), .inr (hS.keep (sQ.n) zQ), trivial⟩, ?_⟩
     refine goW_fork [9, 13] kQ rfl ⟨?_, ?_, trivial⟩
     ·refine stepW_ef _ rfl rfl hF hS rfl (ef_call fn22 rfl (fun w hS => prove_ct _ (LL.getD i.toNat []) (KK.getD j.toNat []) w (Sl.mono (hS.le (.inr (by simp))) hz_11_4) (hS.ext _ _ hg1))) ?_
      clear hF hS; rintro _ _ _ a w ⟨_, _, rfl, rfl, ⟨l_11_9, s_11_9, z_11_9, rfl, hl_11_9, hs_11_9, rfl, rfl⟩⟩ hF hS
      rw [hpj] at hF hl_11_9 hs_11_9; (try dsimp only at hF hl_11_9 hs_11_9)
      replace hS : St _ [_, _, _, _, _, _, _, _] [] _ := hS
      refine ⟨⟨iQ, iQ, .inr (hS.keep (sQ.n.n) zQ), .inr (hS.keep (sQ.n.n) zQ), iQ, iQ, .inr (hS.keep (sQ.n.n) zQ), .inr (hS.keep (sQ.n.n) zQ), trivial⟩, ?_⟩
      refine goW_take 10 _ rfl kQ rfl hF (hS.keep sQ zQ) (q_move rfl) ?_
      clear hF; intro a hF
      refine goW_take 11 _ rfl kQ rfl hF (hS.keep sQ zQ) (q_extract rfl rfl) ?_
      clear hF; intro a hF
      refine goW_take 12 _ rfl kQ rfl hF (hS.keep sQ zQ) (q_extract rfl rfl) ?_
      clear hF; intro a hF
      refine gQ 13 rfl rfl hF hS rfl (ef_allocA ty50) ?_
      clear hF hS; rintro _ _ _ a w ⟨b_11_13, rfl, rfl, rfl⟩ hF hS
      refine ⟨⟨.inr (hS.keep sQ zQ), .inr (hS.keep sQ zQ), .inr (hS.keep sQ zQ), iQ, iQ, .inr (hS.keep (sQ.n.n) zQ), .inr (hS.keep (sQ.n.n) zQ), iQ, iQ, .inr (hS.keep (sQ.n.n) zQ), .inr (hS.keep (sQ.n.n) zQ), trivial⟩, ?_⟩
      refine gQ 14 rfl rfl hF hS rfl (ef_storeW ty50 0 rfl rfl rfl rfl bQ (oc_cons rfl (oc_cons rfl (oc_cons (sl_one' hl_11_9) (oc_cons (sl_one' hs_11_9) oc_nil)))) bQ) ?_
      clear hF hS; rintro _ _ _ a w ⟨rfl, rfl, rfl⟩ hF hS
      refine ⟨⟨.inr (hS.keep sQ zQ), iQ, iQ, iQ, iQ, iQ, iQ, iQ, iQ, iQ, iQ, trivial⟩, ?_⟩
      refine goW_take 15 _ rfl kQ rfl hF (hS.keep sQ zQ) (q_assign rfl) ?_
      clear hF; intro a hF
      exact goW_done kQ (j6_mk v_11_4 z_11_4 l_11_9 s_11_9 z_11_9 b_11_13 ((And.intro hz_11_4 (And.intro hl_11_9 (And.intro hs_11_9 trivial)))) (hF.sub (L' := [(2, _), (3, _), (4, _), (11, _), (12, _), (13, _), (15, _), (16, _), (17, _), (18, _)]) ⟨rfl, rfl, rfl, rfl, rfl, rfl, rfl, rfl, rfl, rfl, trivial⟩) hS)
     ·refine stepW_ef _ rfl rfl hF hS rfl (ef_allocA ty50) ?_
      clear hF hS; rintro _ _ _ a w ⟨b_11_13, rfl, rfl, rfl⟩ hF hS
      refine ⟨⟨.inr (hS.keep (sQ.n) zQ), .inr (hS.keep (sQ.n) zQ), .inr (hS.keep (sQ.n) zQ), .inr (hS.keep (sQ.n) zQ), iQ, iQ, .inr (hS.keep (sQ.n) zQ), .inr (hS.keep (sQ.n) zQ), trivial⟩, ?_⟩
      refine gQ 9 rfl rfl hF hS rfl (ef_call fn22 rfl (fun w hS => prove_ct _ (LL.getD i.toNat []) (KK.getD j.toNat []) w (Sl.mono (hS.le (.inr (by simp))) hz_11_4) (hS.ext _ _ hg1))) ?_
      clear hF hS; rintro _ _ _ a w ⟨_, _, rfl, rfl, ⟨l_11_9, s_11_9, z_11_9, rfl, hl_11_9, hs_11_9, rfl, rfl⟩⟩ hF hS
      rw [hpj] at hF hl_11_9 hs_11_9; (try dsimp only at hF hl_11_9 hs_11_9)
      replace hS : St _ [_, _, _, _, _, _, _, _] [_] _ := hS
      refine ⟨⟨iQ, iQ, .inr (hS.keep (sQ.n.n) zQ), .inr (hS.keep (sQ.n.n) zQ), iQ, iQ, .inr (hS.keep (sQ.n.n) zQ), .inr (hS.keep (sQ.n.n) zQ), trivial⟩, ?_⟩
      refine goW_take 10 _ rfl kQ rfl hF (hS.keep sQ zQ) (q_move rfl) ?_
      clear hF; intro a hF
      refine goW_take 11 _ rfl kQ rfl hF (hS.keep sQ zQ) (q_extract rfl rfl) ?_
      clear hF; intro a hF
      refine goW_take 12 _ rfl kQ rfl hF (hS.keep sQ zQ) (q_extract rfl rfl) ?_
      clear hF; intro a hF
      refine gQ 14 rfl rfl hF hS rfl (ef_storeW ty50 0 rfl rfl rfl rfl bQ (oc_cons rfl (oc_cons rfl (oc_cons (sl_one' hl_11_9) (oc_cons (sl_one' hs_11_9) oc_nil)))) bQ) ?_
      clear hF hS; rintro _ _ _ a w ⟨rfl, rfl, rfl⟩ hF hS
      refine ⟨⟨.inr (hS.keep sQ zQ), iQ, iQ, iQ, iQ, iQ, iQ, iQ, iQ, iQ, iQ, trivial⟩, ?_⟩
      refine goW_take 15 _ rfl kQ rfl hF (hS.keep sQ zQ) (q_assign rfl) ?_
      clear hF; intro a hF
      exact goW_done kQ (j6_mk v_11_4 z_11_4 l_11_9 s_11_9 z_11_9 b_11_13 ((And.intro hz_11_4 (And.intro hl_11_9 (And.intro hs_11_9 trivial)))) (hF.sub (L' := [(2, _), (3, _), (4, _), (11, _), (12, _), (13, _), (15, _), (16, _), (17, _), (18, _)]) ⟨rfl, rfl, rfl, rfl, rfl, rfl, rfl, rfl, rfl, rfl, trivial⟩) hS)
    ·refine stepW_ef _ rfl rfl hF hS rfl (ef_allocA ty50) ?_
     clear hF hS; rintro _ _ _ a w ⟨b_11_13, rfl, rfl, rfl⟩ hF hS
     refine ⟨⟨.inr (hS.keep sQ zQ), .inr (hS.keep sQ zQ), .inr (hS.keep sQ zQ), .inr (hS.keep sQ zQ), .inr (hS.keep sQ zQ), .inr (hS.keep sQ zQ), .inr (hS.keep sQ zQ), .inr (hS.keep sQ zQ), trivial⟩, ?_⟩
     refine gQ 4 rfl rfl hF hS rfl (ef_call fn13 rfl (fun w hS => own_ct _ _ (by omega) w (Sl.mono (hS.le (.inr (by simp))) (elemV_sl hzL (by omega))))) ?_
     clear hF hS; rintro v_11_4 _ _ a w ⟨_, _, rfl, rfl, ⟨z_11_4, hz_11_4, rfl, rfl⟩⟩ hF hS
     refine ⟨⟨.inr (hS.keep (sQ.n) zQ), .inr (hS.keep (sQ.n) zQ), .inr (hS.keep (sQ.n) zQ), .inr (hS.keep (sQ.n) zQ), iQ, iQ, .inr (hS.keep (sQ.n) zQ), .inr (hS.keep (sQ.n) zQ), trivial⟩, ?_⟩
     refine gQ 9 rfl rfl hF hS rfl (ef_call fn22 rfl (fun w hS => prove_ct _ (LL.getD i.toNat []) (KK.getD j.toNat []) w (Sl.mono (hS.le (.inr (by simp))) hz_11_4) (hS.ext _ _ hg1))) ?_
     clear hF hS; rintro _ _ _ a w ⟨_, _, rfl, rfl, ⟨l_11_9, s_11_9, z_11_9, rfl, hl_11_9, hs_11_9, rfl, rfl⟩⟩ hF hS
     rw [hpj] at hF hl_11_9 hs_11_9; (try dsimp only at hF hl_11_9 hs_11_9)
     replace hS : St _ [_, _, _, _, _, _, _, _] [_] _ := hS
     refine ⟨⟨iQ, iQ, .inr (hS.keep (sQ.n.n) zQ), .inr (hS.keep (sQ.n.n) zQ), iQ, iQ, .inr (hS.keep (sQ.n.n) zQ), .inr (hS.keep (sQ.n.n) zQ), trivial⟩, ?_⟩
     refine goW_take 10 _ rfl kQ rfl hF (hS.keep sQ zQ) (q_move rfl) ?_
     clear hF; intro a hF
     refine goW_take 11 _ rfl kQ rfl hF (hS.keep sQ zQ) (q_extract rfl rfl) ?_
     clear hF; intro a hF
     refine goW_take 12 _ rfl kQ rfl hF (hS.keep sQ zQ) (q_extract rfl rfl) ?_
     clear hF; intro a hF
     refine gQ 14 rfl rfl hF hS rfl (ef_storeW ty50 0 rfl rfl rfl rfl bQ (oc_cons rfl (oc_cons rfl (oc_cons (sl_one' hl_11_9) (oc_cons (sl_one' hs_11_9) oc_nil)))) bQ) ?_
     clear hF hS; rintro _ _ _ a w ⟨rfl, rfl, rfl⟩ hF hS
     refine ⟨⟨.inr (hS.keep sQ zQ), iQ, iQ, iQ, iQ, iQ, iQ, iQ, iQ, iQ, iQ, trivial⟩, ?_⟩
     refine goW_take 15 _ rfl kQ rfl hF (hS.keep sQ zQ) (q_assign rfl) ?_
     clear hF; intro a hF
     exact goW_done kQ (j6_mk v_11_4 z_11_4 l_11_9 s_11_9 z_11_9 b_11_13 ((And.intro hz_11_4 (And.intro hl_11_9 (And.intro hs_11_9 trivial)))) (hF.sub (L' := [(2, _), (3, _), (4, _), (11, _), (12, _), (13, _), (15, _), (16, _), (17, _), (18, _)]) ⟨rfl, rfl, rfl, rfl, rfl, rfl, rfl, rfl, rfl, rfl, trivial⟩) hS)
   rintro a w ⟨v_11_4, z_11_4, l_11_9, s_11_9, z_11_9, b_11_13, ⟨hz_11_4, hl_11_9, hs_11_9, -⟩, hF, hS⟩
   (try dsimp only at hF); (try dsimp only at hS)
   refine hK15 _ _ ?_
   clear hK15
   refine wp_seq_k ?_; intro K16 hK16
   revert hS; revert hF; apply regJ (J := J4 (α0 := Value) (α1 := Value) (α2 := PH) (α3 := Nat) 132 _ _ _ _ _) #[false, false, false, false, false, false, false, false, false, false, false, false, false, false, false] 15 mixed rfl rfl
   ·intro w hF hS
    refine goW_take 0 _ rfl kQ rfl hF (hS.keep sQ zQ) (q_move rfl) ?_
    clear hF; intro a hF
    refine goW_take 1 _ rfl kQ rfl hF (hS.keep sQ zQ) (q_move rfl) ?_
    clear hF; intro a hF
    refine goW_take 2 _ rfl kQ rfl hF (hS.keep sQ zQ) (q_idx_sl ty27 ty24 hzL rfl rfl (by omega)) ?_
    clear hF; intro a hF
    refine goW_take 3 _ rfl kQ rfl hF (hS.keep sQ zQ) (q_ld_Sl ty24 hzL (.inr (by simp)) rfl rfl (by omega)) ?_
    clear hF; intro a hF
    refine goW_take 4 _ rfl kQ rfl hF (hS.keep sQ zQ) (q_move rfl) ?_
    clear hF; intro a hF
    refine goW_take 5 _ rfl kQ rfl hF (hS.keep sQ zQ) (q_move rfl) ?_
    clear hF; intro a hF
    refine goW_take 6 _ rfl kQ rfl hF (hS.keep sQ zQ) (q_idx_sl ty47 ty9 hzK rfl rfl (by omega)) ?_
    clear hF; intro a hF
    refine goW_take 7 _ rfl kQ rfl hF (hS.keep sQ zQ) (q_ld_S ty9 hzK (.inr (by simp)) rfl rfl (by omega)) ?_
    clear hF; intro a hF
    refine goW_fork [8, 12] kQ rfl ⟨?_, ?_, trivial⟩
    ·refine stepW_ef _ rfl rfl hF hS rfl (ef_call fn23 rfl (fun w hS => rprove_ct _ (LL.getD i.toNat []) (KK.getD j.toNat []) w (Sl.mono (hS.le (.inr (by simp))) (elemV_sl hzL (by omega))) (hS.ext _ _ hg0))) ?_
     clear hF hS; rintro _ _ _ a w ⟨_, _, rfl, rfl, ⟨l_12_8, s_12_8, z_12_8, rfl, hl_12_8, hs_12_8, rfl, rfl⟩⟩ hF hS
     rw [hpj] at hF hl_12_8 hs_12_8; (try dsimp only at hF hl_12_8 hs_12_8)
     replace hS : St _ [_, _, _, _, _, _, _, _, _] [_] _ := hS
     refine ⟨⟨iQ, iQ, .inr (hS.keep (sQ.n) zQ), .inr (hS.keep (sQ.n) zQ), iQ, iQ, .inr (hS.keep (sQ.n) zQ), .inr (hS.keep (sQ.n) zQ), trivial⟩, ?_⟩
     refine goW_take 9 _ rfl kQ rfl hF (hS.keep sQ zQ) (q_move rfl) ?_
     clear hF; intro a hF
     refine goW_take 10 _ rfl kQ rfl hF (hS.keep sQ zQ) (q_extract rfl rfl) ?_
     clear hF; intro a hF
     refine goW_take 11 _ rfl kQ rfl hF (hS.keep sQ zQ) (q_extract rfl rfl) ?_
     clear hF; intro a hF
     refine gQ 12 rfl rfl hF hS rfl (ef_allocA ty54) ?_
     clear hF hS; rintro _ _ _ a w ⟨b_12_12, rfl, rfl, rfl⟩ hF hS
     refine ⟨⟨.inr (hS.keep sQ zQ), .inr (hS.keep sQ zQ), .inr (hS.keep sQ zQ), iQ, iQ, .inr (hS.keep (sQ.n) zQ), .inr (hS.keep (sQ.n) zQ), iQ, iQ, .inr (hS.keep (sQ.n) zQ), .inr (hS.keep (sQ.n) zQ), trivial⟩, ?_⟩
     refine gQ 13 rfl rfl hF hS rfl (ef_storeW ty54 0 rfl rfl rfl rfl bQ (oc_cons rfl (oc_cons rfl (oc_cons (sl_one' hl_12_8) (oc_cons (sl_one' hs_12_8) oc_nil)))) bQ) ?_
     clear hF hS; rintro _ _ _ a w ⟨rfl, rfl, rfl⟩ hF hS
     refine ⟨⟨.inr (hS.keep sQ zQ), iQ, iQ, iQ, iQ, iQ, iQ, iQ, iQ, iQ, iQ, trivial⟩, ?_⟩
     refine goW_take 14 _ rfl kQ rfl hF (hS.keep sQ zQ) (q_assign rfl) ?_
     clear hF; intro a hF
     exact goW_done kQ (j4_mk l_12_8 s_12_8 z_12_8 b_12_12 ((And.intro hl_12_8 (And.intro hs_12_8 trivial))) (hF.sub (L' := [(2, _), (3, _), (4, _), (11, _), (12, _), (13, _), (15, _), (16, _), (17, _), (18, _), (19, _), (20, _)]) ⟨rfl, rfl, rfl, rfl, rfl, rfl, rfl, rfl, rfl, rfl, rfl, rfl, trivial⟩) hS)
    ·refine stepW_ef _ rfl rfl hF hS rfl (ef_allocA ty54) ?_
     clear hF hS; rintro _ _ _ a w ⟨b_12_12, rfl, rfl, rfl⟩ hF hS
     refine ⟨⟨.inr (hS.keep sQ zQ), .inr (hS.keep sQ zQ), .inr (hS.keep sQ zQ), .inr (hS.keep sQ zQ), .inr (hS.keep sQ zQ), .inr (hS.keep sQ zQ), .inr (hS.keep sQ zQ), .inr (hS.keep sQ zQ), trivial⟩, ?_⟩
     refine gQ 8 rfl rfl hF hS rfl (ef_call fn23 rfl (fun w hS => rprove_ct _ (LL.getD i.toNat []) (KK.getD j.toNat []) w (Sl.mono (hS.le (.inr (by simp))) (elemV_sl hzL (by omega))) (hS.ext _ _ hg0))) ?_
     clear hF hS; rintro _ _ _ a w ⟨_, _, rfl, rfl, ⟨l_12_8, s_12_8, z_12_8, rfl, hl_12_8, hs_12_8, rfl, rfl⟩⟩ hF hS
     rw [hpj] at hF hl_12_8 hs_12_8; (try dsimp only at hF hl_12_8 hs_12_8)
     replace hS : St _ [_, _, _, _, _, _, _, _, _] [_, _] _ := hS
     refine ⟨⟨iQ, iQ, .inr (hS.keep (sQ.n) zQ), .inr (hS.keep (sQ.n) zQ), iQ, iQ, .inr (hS.keep (sQ.n) zQ), .inr (hS.keep (sQ.n) zQ), trivial⟩, ?_⟩
     refine goW_take 9 _ rfl kQ rfl hF (hS.keep sQ zQ) (q_move rfl) ?_
     clear hF; intro a hF
     refine goW_take 10 _ rfl kQ rfl hF (hS.keep sQ zQ) (q_extract rfl rfl) ?_
     clear hF; intro a hF
     refine goW_take 11 _ rfl kQ rfl hF (hS.keep sQ zQ) (q_extract rfl rfl) ?_
     clear hF; intro a hF
     refine gQ 13 rfl rfl hF hS rfl (ef_storeW ty54 0 rfl rfl rfl rfl bQ (oc_cons rfl (oc_cons rfl (oc_cons (sl_one' hl_12_8) (oc_cons (sl_one' hs_12_8) oc_nil)))) bQ) ?_
     clear hF hS; rintro _ _ _ a w ⟨rfl, rfl, rfl⟩ hF hS
     refine ⟨⟨.inr (hS.keep sQ zQ), iQ, iQ, iQ, iQ, iQ, iQ, iQ, iQ, iQ, iQ, trivial⟩, ?_⟩
     refine goW_take 14 _ rfl kQ rfl hF (hS.keep sQ zQ) (q_assign rfl) ?_
     clear hF; intro a hF
     exact goW_done kQ (j4_mk l_12_8 s_12_8 z_12_8 b_12_12 ((And.intro hl_12_8 (And.intro hs_12_8 trivial))) (hF.sub (L' := [(2, _), (3, _), (4, _), (11, _), (12, _), (13, _), (15, _), (16, _), (17, _), (18, _), (19, _), (20, _)]) ⟨rfl, rfl, rfl, rfl, rfl, rfl, rfl, rfl, rfl, rfl, rfl, rfl, trivial⟩) hS)
   rintro a w ⟨l_12_8, s_12_8, z_12_8, b_12_12, ⟨hl_12_8, hs_12_8, -⟩, hF, hS⟩
   (try dsimp only at hF); (try dsimp only at hS)
   refine hK16 _ _ ?_
   clear hK16
   refine wp_seq_k ?_; intro K17 hK17
   revert hS; revert hF; apply regJ (J := J6 (α0 := Value) (α1 := PH) (α2 := Value) (α3 := Value) (α4 := PH) (α5 := Nat) 132 _ _ _ _ _) #[false, false, false, false, false, false, false, false, false, false, false, false, false, false, false, false, false] 17 mixed rfl rfl
   ·intro w hF hS
    refine goW_take 0 _ rfl kQ rfl hF (hS.keep sQ zQ) (q_move rfl) ?_
    clear hF; intro a hF
    refine goW_take 1 _ rfl kQ rfl hF (hS.keep sQ zQ) (q_move rfl) ?_
    clear hF; intro a hF
    refine goW_take 2 _ rfl kQ rfl hF (hS.keep sQ zQ) (q_idx_sl ty27 ty24 hzL rfl rfl (by omega)) ?_
    clear hF; intro a hF
    refine goW_take 3 _ rfl kQ rfl hF (hS.keep sQ zQ) (q_ld_Sl ty24 hzL (.inr (by simp)) rfl rfl (by omega)) ?_
    clear hF; intro a hF
    refine goW_take 5 _ rfl kQ rfl hF (hS.keep sQ zQ) (q_move rfl) ?_
    clear hF; intro a hF
    refine goW_take 6 _ rfl kQ rfl hF (hS.keep sQ zQ) (q_move rfl) ?_
    clear hF; intro a hF
    refine goW_take 7 _ rfl kQ rfl hF (hS.keep sQ zQ) (q_move rfl) ?_
    clear hF; intro a hF
    refine goW_take 8 _ rfl kQ rfl hF (hS.keep sQ zQ) (q_idx_sl ty47 ty9 hzK rfl rfl (by omega)) ?_
    clear hF; intro a hF
    refine goW_take 9 _ rfl kQ rfl hF (hS.keep sQ zQ) (q_ld_S ty9 hzK (.inr (by simp)) rfl rfl (by omega)) ?_
    clear hF; intro a hF
    refine goW_fork [4, 14] kQ rfl ⟨?_, ?_, trivial⟩
    ·refine stepW_ef _ rfl rfl hF hS rfl (ef_call fn13 rfl (fun w hS => own_ct _ _ (by omega) w (Sl.mono (hS.le (.inr (by simp))) (elemV_sl hzL (by omega))))) ?_
     clear hF hS; rintro v_13_4 _ _ a w ⟨_, _, rfl, rfl, ⟨z_13_4, hz_13_4, rfl, rfl⟩⟩ hF hS
     refine ⟨⟨.inr (hS.keep (sQ.n) zQ), .inr (hS.keep (sQ.n) zQ), .inr (hS.keep (sQ.n) zQ), .inr (hS.keep (sQ.n) zQ), .inr (hS.keep (sQ.n) zQ), iQ, iQ, .inr (hS.keep (sQ.n) zQ), .inr (hS.keep (sQ.n) zQ), trivial⟩, ?_⟩
     refine goW_fork [10, 14] kQ rfl ⟨?_, ?_, trivial⟩
     ·refine stepW_ef _ rfl rfl hF hS rfl (ef_call fn24 rfl (fun w hS => range_ct _ (LL.getD i.toNat []) ka (KK.getD j.toNat []) w (Sl.mono (hS.le (.inr (by simp))) hz_13_4) (hS.ext _ _ hg1))) ?_
      clear hF hS; rintro _ _ _ a w ⟨_, _, rfl, rfl, ⟨l_13_10, s_13_10, z_13_10, rfl, hl_13_10, hs_13_10, rfl, rfl⟩⟩ hF hS
      rw [hrj] at hF hl_13_10 hs_13_10; (try dsimp only at hF hl_13_10 hs_13_10)
      replace hS : St _ [_, _, _, _, _, _, _, _, _, _, _] [_, _] _ := hS
      refine ⟨⟨iQ, iQ, .inr (hS.keep (sQ.n.n) zQ), .inr (hS.keep (sQ.n.n) zQ), iQ, iQ, iQ, .inr (hS.keep (sQ.n.n) zQ), .inr (hS.keep (sQ.n.n) zQ), trivial⟩, ?_⟩
      refine goW_take 11 _ rfl kQ rfl hF (hS.keep sQ zQ) (q_move rfl) ?_
      clear hF; intro a hF
      refine goW_take 12 _ rfl kQ rfl hF (hS.keep sQ zQ) (q_extract rfl rfl) ?_
      clear hF; intro a hF
      refine goW_take 13 _ rfl kQ rfl hF (hS.keep sQ zQ) (q_extract rfl rfl) ?_
      clear hF; intro a hF
      refine gQ 14 rfl rfl hF hS rfl (ef_allocA ty50) ?_
      clear hF hS; rintro _ _ _ a w ⟨b_13_14, rfl, rfl, rfl⟩ hF hS
      refine ⟨⟨.inr (hS.keep sQ zQ), .inr (hS.keep sQ zQ), .inr (hS.keep sQ zQ), iQ, iQ, .inr (hS.keep (sQ.n.n) zQ), .inr (hS.keep (sQ.n.n) zQ), iQ, iQ, iQ, .inr (hS.keep (sQ.n.n) zQ), .inr (hS.keep (sQ.n.n) zQ), trivial⟩, ?_⟩
      refine gQ 15 rfl rfl hF hS rfl (ef_storeW ty50 0 rfl rfl rfl rfl bQ (oc_cons rfl (oc_cons rfl (oc_cons (sl_one' hl_13_10) (oc_cons (sl_one' hs_13_10) oc_nil)))) bQ) ?_
      clear hF hS; rintro _ _ _ a w ⟨rfl, rfl, rfl⟩ hF hS
      refine ⟨⟨.inr (hS.keep sQ zQ), iQ, iQ, iQ, iQ, iQ, iQ, iQ, iQ, iQ, iQ, iQ, trivial⟩, ?_⟩
      refine goW_take 16 _ rfl kQ rfl hF (hS.keep sQ zQ) (q_assign rfl) ?_
      clear hF; intro a hF
      exact goW_done kQ (j6_mk v_13_4 z_13_4 l_13_10 s_13_10 z_13_10 b_13_14 ((And.intro hz_13_4 (And.intro hl_13_10 (And.intro hs_13_10 trivial)))) (hF.sub (L' := [(2, _), (3, _), (4, _), (11, _), (12, _), (13, _), (15, _), (16, _), (17, _), (18, _), (19, _), (20, _), (21, _), (22, _)]) ⟨rfl, rfl, rfl, rfl, rfl, rfl, rfl, rfl, rfl, rfl, rfl, rfl, rfl, rfl, trivial⟩) hS)
     ·refine stepW_ef _ rfl rfl hF hS rfl (ef_allocA ty50) ?_
      clear hF hS; rintro _ _ _ a w ⟨b_13_14, rfl, rfl, rfl⟩ hF hS
      refine ⟨⟨.inr (hS.keep (sQ.n) zQ), .inr (hS.keep (sQ.n) zQ), .inr (hS.keep (sQ.n) zQ), .inr (hS.keep (sQ.n) zQ), .inr (hS.keep (sQ.n) zQ), iQ, iQ, .inr (hS.keep (sQ.n) zQ), .inr (hS.keep (sQ.n) zQ), trivial⟩, ?_⟩
      refine gQ 10 rfl rfl hF hS rfl (ef_call fn24 rfl (fun w hS => range_ct _ (LL.getD i.toNat []) ka (KK.getD j.toNat []) w (Sl.mono (hS.le (.inr (by simp))) hz_13_4) (hS.ext _ _ hg1))) ?_
      clear hF hS; rintro _ _ _ a w ⟨_, _, rfl, rfl, ⟨l_13_10, s_13_10, z_13_10, rfl, hl_13_10, hs_13_10, rfl, rfl⟩⟩ hF hS
      rw [hrj] at hF hl_13_10 hs_13_10; (try dsimp only at hF hl_13_10 hs_13_10)
      replace hS : St _ [_, _, _, _, _, _, _, _, _, _, _] [_, _, _] _ := hS
      refine ⟨⟨iQ, iQ, .inr (hS.keep (sQ.n.n) zQ), .inr (hS.keep (sQ.n.n) zQ), iQ, iQ, iQ, .inr (hS.keep (sQ.n.n) zQ), .inr (hS.keep (sQ.n.n) zQ), trivial⟩, ?_⟩
      refine goW_take 11 _ rfl kQ rfl hF (hS.keep sQ zQ) (q_move rfl) ?_
      clear hF; intro a hF
      refine goW_take 12 _ rfl kQ rfl hF (hS.keep sQ zQ) (q_extract rfl rfl) ?_
      clear hF; intro a hF
      refine goW_take 13 _ rfl kQ rfl hF (hS.keep sQ zQ) (q_extract rfl rfl) ?_
      clear hF; intro a hF
      refine gQ 15 rfl rfl hF hS rfl (ef_storeW ty50 0 rfl rfl rfl rfl bQ (oc_cons rfl (oc_cons rfl (oc_cons (sl_one' hl_13_10) (oc_cons (sl_one' hs_13_10) oc_nil)))) bQ) ?_
      clear hF hS; rintro _ _ _ a w ⟨rfl, rfl, rfl⟩ hF hS
      refine ⟨⟨.inr (hS.keep sQ zQ), iQ, iQ, iQ, iQ, iQ, iQ, iQ, iQ, iQ, iQ, iQ, trivial⟩, ?_⟩
      refine goW_take 16 _ rfl kQ rfl hF (hS.keep sQ zQ) (q_assign rfl) ?_
      clear hF; intro a hF
      exact goW_done kQ (j6_mk v_13_4 z_13_4 l_13_10 s_13_10 z_13_10 b_13_14 ((And.intro hz_13_4 (And.intro hl_13_10 (And.intro hs_13_10 trivial)))) (hF.sub (L' := [(2, _), (3, _), (4, _), (11, _), (12, _), (13, _), (15, _), (16, _), (17, _), (18, _), (19, _), (20, _), (21, _), (22, _)]) ⟨rfl, rfl, rfl, rfl, rfl, rfl, rfl, rfl, rfl, rfl, rfl, rfl, rfl, rfl, trivial⟩) hS)
    ·refine stepW_ef _ rfl rfl hF hS rfl (ef_allocA ty50) ?_
     clear hF hS; rintro _ _ _ a w ⟨b_13_14, rfl, rfl, rfl⟩ hF hS
     refine ⟨⟨.inr (hS.keep sQ zQ), .inr (hS.keep sQ zQ), .inr (hS.keep sQ zQ), .inr (hS.keep sQ zQ), .inr (hS.keep sQ zQ), .inr (hS.keep sQ zQ), .inr (hS.keep sQ zQ), .inr (hS.keep sQ zQ), .inr (hS.keep sQ zQ), trivial⟩, ?_⟩
     refine gQ 4 rfl rfl hF hS rfl (ef_call fn13 rfl (fun w hS => own_ct _ _ (by omega) w (Sl.mono (hS.le (.inr (by simp))) (elemV_sl hzL (by omega))))) ?_
     clear hF hS; rintro v_13_4 _ _ a w ⟨_, _, rfl, rfl, ⟨z_13_4, hz_13_4, rfl, rfl⟩⟩ hF hS
     refine ⟨⟨.inr (hS.keep (sQ.n) zQ), .inr (hS.keep (sQ.n) zQ), .inr (hS.keep (sQ.n) zQ), .inr (hS.keep (sQ.n) zQ), .inr (hS.keep (sQ.n) zQ), iQ, iQ, .inr (hS.keep (sQ.n) zQ), .inr (hS.keep (sQ.n) zQ), trivial⟩, ?_⟩
     refine gQ 10 rfl rfl hF hS rfl (ef_call fn24 rfl (fun w hS => range_ct _ (LL.getD i.toNat []) ka (KK.getD j.toNat []) w (Sl.mono (hS.le (.inr (by simp))) hz_13_4) (hS.ext _ _ hg1))) ?_
     clear hF hS; rintro _ _ _ a w ⟨_, _, rfl, rfl, ⟨l_13_10, s_13_10, z_13_10, rfl, hl_13_10, hs_13_10, rfl, rfl⟩⟩ hF hS
     rw [hrj] at hF hl_13_10 hs_13_10; (try dsimp only at hF hl_13_10 hs_13_10)
     replace hS : St _ [_, _, _, _, _, _, _, _, _, _, _] [_, _, _] _ := hS
     refine ⟨⟨iQ, iQ, .inr (hS.keep (sQ.n.n) zQ), .inr (hS.keep (sQ.n.n) zQ), iQ, iQ, iQ, .inr (hS.keep (sQ.n.n) zQ), .inr (hS.keep (sQ.n.n) zQ), trivial⟩, ?_⟩
     refine goW_take 11 _ rfl kQ rfl hF (hS.keep sQ zQ) (q_move rfl) ?_
     clear hF; intro a hF
     refine goW_take 12 _ rfl kQ rfl hF (hS.keep sQ zQ) (q_extract rfl rfl) ?_
     clear hF; intro a hF
     refine goW_take 13 _ rfl kQ rfl hF (hS.keep sQ zQ) (q_extract rfl rfl) ?_
     clear hF; intro a hF
     refine gQ 15 rfl rfl hF hS rfl (ef_storeW ty50 0 rfl rfl rfl rfl bQ (oc_cons rfl (oc_cons rfl (oc_cons (sl_one' hl_13_10) (oc_cons (sl_one' hs_13_10) oc_nil)))) bQ) ?_
     clear hF hS; rintro _ _ _ a w ⟨rfl, rfl, rfl⟩ hF hS
     refine ⟨⟨.inr (hS.keep sQ zQ), iQ, iQ, iQ, iQ, iQ, iQ, iQ, iQ, iQ, iQ, iQ, trivial⟩, ?_⟩
     refine goW_take 16 _ rfl kQ rfl hF (hS.keep sQ zQ) (q_assign rfl) ?_
     clear hF; intro a hF
     exact goW_done kQ (j6_mk v_13_4 z_13_4 l_13_10 s_13_10 z_13_10 b_13_14 ((And.intro hz_13_4 (And.intro hl_13_10 (And.intro hs_13_10 trivial)))) (hF.sub (L' := [(2, _), (3, _), (4, _), (11, _), (12, _), (13, _), (15, _), (16, _), (17, _), (18, _), (19, _), (20, _), (21, _), (22, _)]) ⟨rfl, rfl, rfl, rfl, rfl, rfl, rfl, rfl, rfl, rfl, rfl, rfl, rfl, rfl, trivial⟩) hS)
   rintro a w ⟨v_13_4, z_13_4, l_13_10, s_13_10, z_13_10, b_13_14, ⟨hz_13_4, hl_13_10, hs_13_10, -⟩, hF, hS⟩
   (try dsimp only at hF); (try dsimp only at hS)
   refine hK17 _ _ ?_
   clear hK17
   refine wp_seq_k ?_; intro K18 hK18
   revert hS; revert hF; apply regJ (J := J4 (α0 := Value) (α1 := Value) (α2 := PH) (α3 := Nat) 132 _ _ _ _ _) #[false, false, false, false, false, false, false, false, false, false, false, false, false, false, false, false] 16 mixed rfl rfl
   ·intro w hF hS
    refine goW_take 0 _ rfl kQ rfl hF (hS.keep sQ zQ) (q_move rfl) ?_
    clear hF; intro a hF
    refine goW_take 1 _ rfl kQ rfl hF (hS.keep sQ zQ) (q_move rfl) ?_
    clear hF; intro a hF
    refine goW_take 2 _ rfl kQ rfl hF (hS.keep sQ zQ) (q_idx_sl ty27 ty24 hzL rfl rfl (by omega)) ?_
    clear hF; intro a hF
    refine goW_take 3 _ rfl kQ rfl hF (hS.keep sQ zQ) (q_ld_Sl ty24 hzL (.inr (by simp)) rfl rfl (by omega)) ?_
    clear hF; intro a hF
    refine goW_take 4 _ rfl kQ rfl hF (hS.keep sQ zQ) (q_move rfl) ?_
    clear hF; intro a hF
    refine goW_take 5 _ rfl kQ rfl hF (hS.keep sQ zQ) (q_move rfl) ?_
    clear hF; intro a hF
    refine goW_take 6 _ rfl kQ rfl hF (hS.keep sQ zQ) (q_move rfl) ?_
    clear hF; intro a hF
    refine goW_take 7 _ rfl kQ rfl hF (hS.keep sQ zQ) (q_idx_sl ty47 ty9 hzK rfl rfl (by omega)) ?_
    clear hF; intro a hF
    refine goW_take 8 _ rfl kQ rfl hF (hS.keep sQ zQ) (q_ld_S ty9 hzK (.inr (by simp)) rfl rfl (by omega)) ?_
    clear hF; intro a hF
    refine goW_fork [9, 13] kQ rfl ⟨?_, ?_, trivial⟩
    ·refine stepW_ef _ rfl rfl hF hS rfl (ef_call fn25 rfl (fun w hS => rrange_ct _ (LL.getD i.toNat []) ka (KK.getD j.toNat []) w (Sl.mono (hS.le (.inr (by simp))) (elemV_sl hzL (by omega))) (hS.ext _ _ hg0))) ?_
     clear hF hS; rintro _ _ _ a w ⟨_, _, rfl, rfl, ⟨l_14_9, s_14_9, z_14_9, rfl, hl_14_9, hs_14_9, rfl, rfl⟩⟩ hF hS
     rw [hrj] at hF hl_14_9 hs_14_9; (try dsimp only at hF hl_14_9 hs_14_9)
     replace hS : St _ [_, _, _, _, _, _, _, _, _, _, _, _] [_, _, _] _ := hS
     refine ⟨⟨iQ, iQ, .inr (hS.keep (sQ.n) zQ), .inr (hS.keep (sQ.n) zQ), iQ, iQ, iQ, .inr (hS.keep (sQ.n) zQ), .inr (hS.keep (sQ.n) zQ), trivial⟩, ?_⟩
     refine goW_take 10 _ rfl kQ rfl hF (hS.keep sQ zQ) (q_move rfl) ?_
     clear hF; intro a hF
     refine goW_take 11 _ rfl kQ rfl hF (hS.keep sQ zQ) (q_extract rfl rfl) ?_
     clear hF; intro a hF
     refine goW_take 12 _ rfl kQ rfl hF (hS.keep sQ zQ) (q_extract rfl rfl) ?_
     clear hF; intro a hF
     refine gQ 13 rfl rfl hF hS rfl (ef_allocA ty54) ?_
     clear hF hS; rintro _ _ _ a w ⟨b_14_13, rfl, rfl, rfl⟩ hF hS
     refine ⟨⟨.inr (hS.keep sQ zQ), .inr (hS.keep sQ zQ), .inr (hS.keep sQ zQ), iQ, iQ, .inr (hS.keep (sQ.n) zQ), .inr (hS.keep (sQ.n) zQ), iQ, iQ, iQ, .inr (hS.keep (sQ.n) zQ), .inr (hS.keep (sQ.n) zQ), trivial⟩, ?_⟩
     refine gQ 14 rfl rfl hF hS rfl (ef_storeW ty54 0 rfl rfl rfl rfl bQ (oc_cons rfl (oc_cons rfl (oc_cons (sl_one' hl_14_9) (oc_cons (sl_one' hs_14_9) oc_nil)))) bQ) ?_
     clear hF hS; rintro _ _ _ a w ⟨rfl, rfl, rfl⟩ hF hS
     refine ⟨⟨.inr (hS.keep sQ zQ), iQ, iQ, iQ, iQ, iQ, iQ, iQ, iQ, iQ, iQ, iQ, trivial⟩, ?_⟩
     refine goW_take 15 _ rfl kQ rfl hF (hS.keep sQ zQ) (q_assign rfl) ?_
     clear hF; intro a hF
     exact goW_done kQ (j4_mk l_14_9 s_14_9 z_14_9 b_14_13 ((And.intro hl_14_9 (And.intro hs_14_9 trivial))) (hF.sub (L' := [(2, _), (3, _), (4, _), (11, _), (12, _), (13, _), (15, _), (16, _), (17, _), (18, _), (19, _), (20, _), (21, _), (22, _), (23, _), (24, _)]) ⟨rfl, rfl, rfl, rfl, rfl, rfl, rfl, rfl, rfl, rfl, rfl, rfl, rfl, rfl, rfl, rfl, trivial⟩) hS)
    ·refine stepW_ef _ rfl rfl hF hS rfl (ef_allocA ty54) ?_
     clear hF hS; rintro _ _ _ a w ⟨b_14_13, rfl, rfl, rfl⟩ hF hS
     refine ⟨⟨.inr (hS.keep sQ zQ), .inr (hS.keep sQ zQ), .inr (hS.keep sQ zQ), .inr (hS.keep sQ zQ), .inr (hS.keep sQ zQ), .inr (hS.keep sQ zQ), .inr (hS.keep sQ zQ), .inr (hS.keep sQ zQ), .inr (hS.keep sQ zQ), trivial⟩, ?_⟩
     refine gQ 9 rfl rfl hF hS rfl (ef_call fn25 rfl (fun w hS => rrange_ct _ (LL.getD i.toNat []) ka (KK.getD j.toNat []) w (Sl.mono (hS.le (.inr (by simp))) (elemV_sl hzL (by omega))) (hS.ext _ _ hg0))) ?_
     clear hF hS; rintro _ _ _ a w ⟨_, _, rfl, rfl, ⟨l_14_9, s_14_9, z_14_9, rfl, hl_14_9, hs_14_9, rfl, rfl⟩⟩ hF hS
     rw [hrj] at hF hl_14_9 hs_14_9; (try dsimp only at hF hl_14_9 hs_14_9)
     replace hS : St _ [_, _, _, _, _, _, _, _, _, _, _, _] [_, _, _, _] _ := hS
     refine ⟨⟨iQ, iQ, .inr (hS.keep (sQ.n) zQ), .inr (hS.keep (sQ.n) zQ), iQ, iQ, iQ, .inr (hS.keep (sQ.n) zQ), .inr (hS.keep (sQ.n) zQ), trivial⟩, ?_⟩
     refine goW_take 10 _ rfl kQ rfl hF (hS.keep sQ zQ) (q_move rfl) ?_
     clear hF; intro a hF
     refine goW_take 11 _ rfl kQ rfl hF (hS.keep sQ zQ) (q_extract rfl rfl) ?_
     clear hF; intro a hF
     refine goW_take 12 _ rfl kQ rfl hF (hS.keep sQ zQ) (q_extract rfl rfl) ?_
     clear hF; intro a hF
     refine gQ 14 rfl rfl hF hS rfl (ef_storeW ty54 0 rfl rfl rfl rfl bQ (oc_cons rfl (oc_cons rfl (oc_cons (sl_one' hl_14_9) (oc_cons (sl_one' hs_14_9) oc_nil)))) bQ) ?_
     clear hF hS; rintro _ _ _ a w ⟨rfl, rfl, rfl⟩ hF hS
     refine ⟨⟨.inr (hS.keep sQ zQ), iQ, iQ, iQ, iQ, iQ, iQ, iQ, iQ, iQ, iQ, iQ, trivial⟩, ?_⟩
     refine goW_take 15 _ rfl kQ rfl hF (hS.keep sQ zQ) (q_assign rfl) ?_
     clear hF; intro a hF
     exact goW_done kQ (j4_mk l_14_9 s_14_9 z_14_9 b_14_13 ((And.intro hl_14_9 (And.intro hs_14_9 trivial))) (hF.sub (L' := [(2, _), (3, _), (4, _), (11, _), (12, _), (13, _), (15, _), (16, _), (17, _), (18, _), (19, _), (20, _), (21, _), (22, _), (23, _), (24, _)]) ⟨rfl, rfl, rfl, rfl, rfl, rfl, rfl, rfl, rfl, rfl, rfl, rfl, rfl, rfl, rfl, rfl, trivial⟩) hS)
   rintro a w ⟨l_14_9, s_14_9, z_14_9, b_14_13, ⟨hl_14_9, hs_14_9, -⟩, hF, hS⟩
   (try dsimp only at hF); (try dsimp only at hS)
   refine hK18 _ _ ?_
   clear hK18
   refine wp_seq_k ?_; intro K19 hK19
   revert hS; revert hF; apply regJ (J := J4 (α0 := Value) (α1 := PH) (α2 := Value) (α3 := PH) 132 _ _ _ _ _) #[false, false, false, false, false, false, false, false, false, false, false, false, false, false, false, false, false, false, false, false, false, false] 22 mixed rfl rfl
   ·intro w hF hS
    refine goW_take 0 _ rfl kQ rfl hF (hS.keep sQ zQ) (q_move rfl) ?_
    clear hF; intro a hF
    refine goW_take 1 _ rfl kQ rfl hF (hS.keep sQ zQ) (q_move rfl) ?_
    clear hF; intro a hF
    refine goW_take 2 _ rfl kQ rfl hF (hS.keep sQ zQ) (q_nf (q_nei rfl rfl) (rfl)) ?_
    clear hF; intro a hF
    refine goW_take 3 _ rfl kQ rfl hF (hS.keep sQ zQ) (q_move rfl) ?_
    clear hF; intro a hF
    refine goW_takeg 4 _ rfl (wanted_go 112 rfl rfl) kQ rfl hF (hS.keep sQ zQ) (q_move rfl) ?_
    clear hF; intro a hF
    refine goW_takeg 5 _ rfl (wanted_go 112 rfl rfl) kQ rfl hF (hS.keep sQ zQ) (q_move rfl) ?_
    clear hF; intro a hF
    refine goW_takeg 6 _ rfl (wanted_go 112 rfl rfl) kQ rfl hF (hS.keep sQ zQ) (q_nf (q_nei rfl rfl) (rfl)) ?_
    clear hF; intro a hF
    refine goW_take 7 _ rfl kQ rfl hF (hS.keep sQ zQ) (q_pick_f rfl rfl) ?_
    clear hF; intro a hF
    refine goW_take 8 _ rfl kQ rfl hF (hS.keep sQ zQ) (q_move rfl) ?_
    clear hF; intro a hF
    refine goW_takeg 9 _ rfl (wanted_go 117 rfl rfl) kQ rfl hF (hS.keep sQ (sQ.n.n.n)) (q_ld_blkW ty50 0 rfl rfl bQ rfl) ?_
    clear hF; intro a hF
    refine goW_takeg 11 _ rfl (wanted_go 117 rfl rfl) kQ rfl hF (hS.keep sQ (zQ.k.n.n)) (q_ld_blkW ty54 0 rfl rfl bQ rfl) ?_
    clear hF; intro a hF
    refine goW_fork [10] kQ rfl ⟨?_, trivial⟩
    refine stepW_efg _ rfl (wanted_go 117 rfl rfl) rfl hF hS rfl (ef_call fn27 rfl (fun w hS => model_ct pj _ _ (by omega) w (Sl.mono (hS.le (.inr (by simp))) hl_11_9) (Sl.mono (hS.le (.inr (by simp))) hs_11_9))) ?_
    clear hF hS; rintro _ _ _ a w ⟨_, _, rfl, rfl, ⟨l_15_10, z_15_10, rfl, hl_15_10, rfl, rfl⟩⟩ hF hS
    refine ⟨⟨.inr (hS.keep (sQ.n) (zQ.k.n.n)), iQ, iQ, iQ, .inr (hS.keep (sQ.n) zQ), .inr (hS.keep (sQ.n) zQ), .inr (hS.keep (sQ.n) zQ), iQ, .inr (hS.keep (sQ.n) zQ), .inr (hS.keep (sQ.n) zQ), .inr (hS.keep (sQ.n) zQ), trivial⟩, ?_⟩
    refine goW_fork [12] kQ rfl ⟨?_, trivial⟩
    refine stepW_efg _ rfl (wanted_go 117 rfl rfl) rfl hF hS rfl (ef_qt (q_call fn26 rfl (fun w hS => samep_ct pj pj _ _ _ _ w (Sl.mono (hS.le (.inr (by simp))) hl_15_10) (Sl.mono (hS.le (.inr (by simp))) hs_11_9) (Sl.mono (hS.le (.inr (by simp))) hl_12_8) (Sl.mono (hS.le (.inr (by simp))) hs_12_8)) (fun _ _ _ h => h))) ?_
    clear hF hS; rintro _ _ _ a w ⟨rfl, rfl, rfl⟩ hF hS
    refine ⟨⟨iQ, iQ, iQ, iQ, .inr (hS.keep (sQ.n) zQ), .inr (hS.keep (sQ.n) zQ), .inr (hS.keep (sQ.n) zQ), iQ, .inr (hS.keep (sQ.n) zQ), .inr (hS.keep (sQ.n) zQ), .inr (hS.keep (sQ.n) zQ), trivial⟩, ?_⟩
    refine goW_takeg 13 _ rfl (wanted_go 117 rfl rfl) kQ rfl hF (hS.keep sQ zQ) (q_bf (q_not rfl) (by rw [Mk.same_refl]; rfl)) ?_
    clear hF; intro a hF
    refine goW_take 14 _ rfl kQ rfl hF (hS.keep sQ zQ) (q_pick_f rfl rfl) ?_
    clear hF; intro a hF
    refine goW_take 15 _ rfl kQ rfl hF (hS.keep sQ zQ) (q_move rfl) ?_
    clear hF; intro a hF
    refine goW_takeg 16 _ rfl (wanted_go 124 rfl rfl) kQ rfl hF (hS.keep sQ (zQ.k.n)) (q_ld_blkW ty50 0 rfl rfl bQ rfl) ?_
    clear hF; intro a hF
    refine goW_takeg 18 _ rfl (wanted_go 124 rfl rfl) kQ rfl hF (hS.keep sQ (zQ.k)) (q_ld_blkW ty54 0 rfl rfl bQ rfl) ?_
    clear hF; intro a hF
    refine goW_fork [17] kQ rfl ⟨?_, trivial⟩
    refine stepW_efg _ rfl (wanted_go 124 rfl rfl) rfl hF hS rfl (ef_call fn27 rfl (fun w hS => model_ct rj _ _ (by omega) w (Sl.mono (hS.le (.inr (by simp))) hl_13_10) (Sl.mono (hS.le (.inr (by simp))) hs_13_10))) ?_
    clear hF hS; rintro _ _ _ a w ⟨_, _, rfl, rfl, ⟨l_15_17, z_15_17, rfl, hl_15_17, rfl, rfl⟩⟩ hF hS
    refine ⟨⟨.inr (hS.keep (sQ.n) (zQ.k)), iQ, iQ, iQ, .inr (hS.keep (sQ.n) zQ), iQ, iQ, iQ, iQ, .inr (hS.keep (sQ.n.n) zQ), .inr (hS.keep (sQ.n.n) zQ), .inr (hS.keep (sQ.n.n) zQ), iQ, .inr (hS.keep (sQ.n.n) zQ), .inr (hS.keep (sQ.n.n) zQ), .inr (hS.keep (sQ.n.n) zQ), trivial⟩, ?_⟩
    refine goW_fork [19] kQ rfl ⟨?_, trivial⟩
    refine stepW_efg _ rfl (wanted_go 124 rfl rfl) rfl hF hS rfl (ef_qt (q_call fn26 rfl (fun w hS => samep_ct rj rj _ _ _ _ w (Sl.mono (hS.le (.inr (by simp))) hl_15_17) (Sl.mono (hS.le (.inr (by simp))) hs_13_10) (Sl.mono (hS.le (.inr (by simp))) hl_14_9) (Sl.mono (hS.le (.inr (by simp))) hs_14_9)) (fun _ _ _ h => h))) ?_
    clear hF hS; rintro _ _ _ a w ⟨rfl, rfl, rfl⟩ hF hS
    refine ⟨⟨iQ, iQ, iQ, iQ, .inr (hS.keep (sQ.n) zQ), iQ, iQ, iQ, iQ, .inr (hS.keep (sQ.n.n) zQ), .inr (hS.keep (sQ.n.n) zQ), .inr (hS.keep (sQ.n.n) zQ), iQ, .inr (hS.keep (sQ.n.n) zQ), .inr (hS.keep (sQ.n.n) zQ), .inr (hS.keep (sQ.n.n) zQ), trivial⟩, ?_⟩
    refine goW_takeg 20 _ rfl (wanted_go 124 rfl rfl) kQ rfl hF (hS.keep sQ zQ) (q_bf (q_not rfl) (by rw [Mk.same_refl]; rfl)) ?_
    clear hF; intro a hF
    refine goW_take 21 _ rfl kQ rfl hF (hS.keep sQ zQ) (q_pick_f rfl rfl) ?_
    clear hF; intro a hF
    exact goW_done kQ (j4_mk l_15_10 z_15_10 l_15_17 z_15_17 ((And.intro hl_15_10 (And.intro hl_15_17 trivial))) (hF.sub (L' := [(2, _), (3, _), (4, _), (11, _), (12, _), (13, _), (15, _), (16, _), (130, _)]) ⟨rfl, rfl, rfl, rfl, rfl, rfl, rfl, rfl, rfl, trivial⟩) hS)
   rintro a w ⟨l_15_10, z_15_10, l_15_17, z_15_17, ⟨hl_15_10, hl_15_17, -⟩, hF, hS⟩
   (try dsimp only at hF); (try dsimp only at hS)
   refine hK19 _ _ ?_
   clear hK19
   refine wp_if hF rfl (fun h => absurd h (by simp)) (fun _ => ?_)
   refine wp_skip ?_
   refine hK14 _ _ ?_
   clear hK14
   refine reg hF hS (sq rfl (q_move rfl) <|
     sq rfl (q_addi rfl rfl (by omega)) <|
     sq rfl (q_assign rfl) <|
     sq_end) ?_
   clear hF hS; intro a w hF hS
   replace hS := hS.keep (sQ.n.n.n.n.n.n.n.n) zQ
   refine ⟨(j + 1), ?_, ?_, hF.sub ⟨rfl, rfl, rfl, rfl, rfl, rfl, rfl, rfl, trivial⟩, ?_⟩
   ·(try dsimp only); omega
   ·(try dsimp only); omega
   ·exact hS
  ·refine wp_exit ?_
   refine hK7 _ _ ?_
   clear hK7
   refine reg hF hS (sq rfl (q_move rfl) <|
     sq rfl (q_addi rfl rfl (by omega)) <|
     sq rfl (q_assign rfl) <|
     sq_end) ?_
   clear hF hS; intro a w hF hS
   replace hS := hS.keep (sQ.n) zQ
   refine ⟨(i + 1), ?_, ?_, hF.sub ⟨rfl, rfl, rfl, rfl, rfl, trivial⟩, ?_⟩
   ·(try dsimp only); omega
   ·(try dsimp only); omega
   ·exact hS
 ·refine wp_exit ?_
  refine hK3 _ _ ?_
  clear hK3
  refine wp_seq_k ?_; intro K20 hK20
  refine reg hF hS (sq rfl (q_call fn19 rfl (fun w hS => lives_ct w (hS.ext _ _ hg1)) (fun _ _ _ h => h)) <|
    sq rfl (q_assign rfl) <|
    sq_end) ?_
  clear hF hS; intro a w hF hS
  refine hK20 _ _ ?_
  clear hK20
  refine wp_ret ?_
  exact fn_ret (rs := [.tmp 10]) rfl hF hS (vs := [_]) ⟨rfl, trivial⟩ zQ zQ (rfl)
end Go.Proofs.YtdojfnigffeblaaDoor
