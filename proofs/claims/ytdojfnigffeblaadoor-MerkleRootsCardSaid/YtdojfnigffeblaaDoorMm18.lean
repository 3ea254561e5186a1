/- A text of a proof over this seat: walks over the program's functions and the plain laws that they need. -/
import Derived.Test.YtdojfnigffeblaaDoorMm17
import Derived.Test.YtdojfnigffeblaaDoorMkA
import Derived.Test.YtdojfnigffeblaaDoorFwD
import Derived.Test.YtdojfnigffeblaaDoorFwB
set_option linter.all false
namespace Go.Proofs.YtdojfnigffeblaaDoor
open Go.Fw


attribute [local irreducible] Sha.sum Sha.mac Sha.ofD Wi.int Wi.ints Wi.bytes Sha.inp Mk.half Lib.compareBytes Mk.frm Mk.rootD Mk.provE Mk.rangE Mk.rootE Mk.chkE Mk.chkR Mk.shown Mk.leavesL Mk.keyL Mk.keyB Mk.hasI Mk.inside Mk.bent Mk.coll Mk.vE Mk.rowD Gu.arnd

set_option maxRecDepth 4000 in
set_option maxHeartbeats 2000000 in
theorem mlaw1_ct (v1 v2 : Value) (l : List Int) (rr9 : List Mk.Lf) (long : Int) (hk9 : -9223372036854775808 ≤ long ∧ long ≤ 9223372036854775807) (w : World) (hb1 : Sl encI (ph w) v1 l) (hb2 : Sl encF (ph w) v2 rr9) {fz0 : Nat × Nat} {bt0 : TypeId} (hg0 : w.heap[0]? = some (.cells (Sha.kc.map vw).toArray bt0 fz0)) {fz1 : Nat × Nat} {bt1 : TypeId} (hg1 : w.heap[2]? = some (.cells (Sha.kc.map vw).toArray bt1 fz1)) : Ct Tryd.prog 3 [v1, v2, vi long] w (fun r _ _ => r = .bool true) := by
 refine fn_enter Tryd.func3 rfl Tryd.ntmps3 (Nat.le_of_ble_eq_true rfl) fun a hF hS => ?_
 obtain ⟨X, hX⟩ : ∃ x, x = Mk.leavesL l := ⟨_, rfl⟩
 have hlbX := Mk.leaves_bd l
 have hvX := Mk.leaves_vE l
 rw [← hX] at hlbX hvX
 obtain ⟨hlnX, hlxX⟩ := hlbX
 obtain ⟨rtX, hrtX⟩ : ∃ x, x = (Mk.rootE X).1 := ⟨_, rfl⟩
 have hrlX : rtX.length = 16 := by rw [hrtX, Mk.rootE_n hvX]; exact Mk.rootD_16 _ _
 have hroX : Mk.rootE X = (rtX, 0) := by rw [hrtX, Mk.rootE_n hvX]
 have hrnX : (Mk.rootE X).1.length = 16 := by rw [← hrtX]; exact hrlX
 obtain ⟨R, hR⟩ : ∃ x, x = Mk.leavesR rr9 := ⟨_, rfl⟩
 have hlbR := Mk.leavesR_bd rr9
 rw [← hR] at hlbR
 obtain ⟨LL, hLL⟩ : ∃ x, x = [X, R, []] := ⟨_, rfl⟩
 have hLn : LL.length = 3 := by rw [hLL]; rfl
 have hLb : ∀ j, (LL.getD j []).length ≤ 20 ∧ ∀ x ∈ LL.getD j [], x.1.length ≤ 40 ∧ x.2.length ≤ 40 := by
  rw [hLL]
  exact Mk.three_bd ⟨by omega, fun x hx => by have := hlxX x hx; omega⟩ ⟨by have := hlbR.1; omega, fun x hx => by have := hlbR.2 x hx; omega⟩ ⟨Nat.zero_le _, fun x hx => by cases hx⟩
 have hah := Gu.arnd_range (n := long) (m := 12) (by omega)
 obtain ⟨mN, hmN⟩ : ∃ m : Nat, 4090 + Gu.arnd long 12 = (m : Int) := ⟨(4090 + Gu.arnd long 12).toNat, by omega⟩
 obtain ⟨mW, hmW⟩ : ∃ m : Nat, 65530 + Gu.arnd long 12 = (m : Int) := ⟨(65530 + Gu.arnd long 12).toNat, by omega⟩
 have hmN1 : 0 < mN ∧ mN ≤ 5000 := by omega
 have hmW1 : 0 < mW ∧ mW ≤ 70000 := by omega
 have hrl0 : (List.replicate mW (0 : UInt8)).length = mW := List.length_replicate
 obtain ⟨WW, hWW⟩ : ∃ x, x = ([([97], List.replicate mW 0), ([98], [])] : List Mk.Lf) := ⟨_, rfl⟩
 have hWl : WW.length = 2 := by rw [hWW]; rfl
 refine wp_seq_k ?_; intro K1 hK1
 refine reg hF hS (sq rfl (q_assign rfl) <|
   sq_end) ?_
 clear hF hS; intro a w hF hS
 refine hK1 _ _ ?_
 clear hK1
 refine wp_seq_k ?_; intro K2 hK2
 refine regl ?_
 refine wpl_sq hF hS (sq rfl (q_move rfl) <|
   sq_end) ?_
 clear hF hS; intro a w hF hS
 refine wpl_ef hF hS rfl (ef_call fn10 rfl (fun w hS => leaves_ct _ _ w (Sl.mono (hS.le zin0) hb1))) ?_
 clear hF hS; rintro v1 _ _ a w ⟨_, _, rfl, rfl, ⟨z2, hz3, rfl, rfl⟩⟩ hF hS
 (try rw [← hX] at hF); rw [← hX] at hz3
 replace hS : St _ [_] [] _ := hS
 refine wpl_sq hF hS (sq rfl (q_move rfl) <|
   sq_end) ?_
 clear hF hS; intro a w hF hS
 refine wpl_ef hF hS rfl (ef_call fn11 rfl (fun w hS => leavesR_ct _ _ w (Sl.mono (hS.le zin0) hb2))) ?_
 clear hF hS; rintro v4 _ _ a w ⟨_, _, rfl, rfl, ⟨z5, hz6, rfl, rfl⟩⟩ hF hS
 (try rw [← hR] at hF); rw [← hR] at hz6
 replace hS : St _ [_, _] [] _ := hS
 have hoc9 := (oc_cons (sl_one' hz3) (oc_cons (sl_one' hz6) (oc_cons (show (Value.slice none 0 0).oneCell' = true from rfl) oc_nil)))
 refine wpl_ef hF hS rfl (ef_bsliceA ty27 ty24 rfl rfl (oc_cons (sl_one' hz3) (oc_cons (sl_one' hz6) (oc_cons (show (Value.slice none 0 0).oneCell' = true from rfl) oc_nil))) (by decide) rfl rfl) ?_
 clear hF hS; rintro v7 _ _ a w ⟨rfl, rfl⟩ hF hS
 replace hS : St _ [_, _] [_] _ := hS
 refine wpl_sq hF hS (sq rfl (q_assign rfl) <|
   sq_end) ?_
 clear hF hS; intro a w hF hS
 refine wpList_nil ?_
 replace hS := hS.zone00
 replace hS : St _ [_, _, _] [_] _ := hS
 obtain ⟨zu, hzu, hS⟩ := hS.union
 obtain ⟨zL, hzL, hS⟩ := St.freezeSl (E := encF) (z' := zu) (xs := [X, R, []]) hS (by simp) rfl (by decide) ⟨Sl.mono (hzu _ (by simp)) hz3, Sl.mono (hzu _ (by simp)) hz6, sl_nil, trivial⟩
 rw [← hLL] at hzL
 replace hS : St _ [_, _, _, _, _] [] _ := hS
 refine hK2 _ _ ?_
 clear hK2
 refine wp_seq_k ?_; intro K3 hK3
 refine wp_seq_k ?_; intro K4 hK4
 refine reg hF hS (sq rfl (q_assign rfl) <|
   sq_end) ?_
 clear hF hS; intro a w hF hS
 refine hK4 _ _ ?_
 clear hK4
 refine wp_block ?_
 obtain ⟨hs0, hhs0, hS⟩ : ∃ h, h = _ ∧ St _ _ h _ := ⟨_, rfl, hS⟩
 refine wp_loopx (γ := Int) (0) (fun (i : Int) => [(8, vi i)]) [(2, _), (7, _)] (fun (i : Int) => hs0) (fun (i : Int) => 0 ≤ i ∧ i ≤ 3) (fun (i : Int) => (3 - i).toNat) (hF.sub ⟨rfl, rfl, rfl, trivial⟩) (by subst hhs0; exact hS) (by exact ⟨Int.le_refl _, by omega⟩) ?_
 clear hF hS; rintro i a w hfact hF hS
 subst hhs0; (try dsimp only at hfact); (try dsimp only at hF); (try dsimp only at hS)
 obtain ⟨hi0, hi1⟩ := hfact
 replace hS : St _ [_, _, _, _, _] [] _ := hS
 refine wp_seq_k ?_; intro K5 hK5
 refine wp_seq_k ?_; intro K6 hK6
 refine reg hF hS (sq rfl (q_move rfl) <|
   sq rfl (q_move rfl) <|
   sq rfl (q_len_sl ty27 hzL rfl) <|
   sq rfl (q_lti rfl rfl) <|
   sq_end) ?_
 clear hF hS; intro a w hF hS
 refine hK6 _ _ ?_
 clear hK6
 refine wp_ifd hF rfl (fun hc1 => ?_) (fun hc1 => ?_)
 ·have hbi := hLb i.toNat
  have hr16i := Mk.rootE_16 (LL.getD i.toNat [])
  refine wp_skip ?_
  refine hK5 _ _ ?_
  clear hK5
  refine wp_seq_k ?_; intro K7 hK7
  refine wp_block ?_
  refine wp_seq_k ?_; intro K8 hK8
  refine regl ?_
  refine wpl_sq hF hS (sq rfl (q_move rfl) <|
    sq rfl (q_move rfl) <|
    sq rfl (q_idx_sl ty27 ty24 hzL rfl rfl (by omega)) <|
    sq rfl (q_ld_Sl ty24 hzL (.inr (by simp)) rfl rfl (by omega)) <|
    sq_end) ?_
  clear hF hS; intro a w hF hS
  refine wpl_ef hF hS rfl (ef_call fn13 rfl (fun w hS => own_ct _ _ (by omega) w (Sl.mono (hS.le (.inr (by simp))) (elemV_sl hzL (by omega))))) ?_
  clear hF hS; rintro v10 _ _ a w ⟨_, _, rfl, rfl, ⟨z11, hz12, rfl, rfl⟩⟩ hF hS
  replace hS : St _ [_, _, _, _, _, _] [] _ := hS
  refine wpl_sq hF hS (sq rfl (q_call fn12 rfl (fun w hS => mroot_ct _ _ w (Sl.mono (hS.le (.inr (by simp))) hz12) (hS.ext _ _ hg1)) (fun _ _ _ h => h)) <|
    sq rfl (q_move rfl) <|
    sq rfl (q_extract rfl rfl) <|
    sq rfl (q_extract rfl rfl) <|
    sq_end) ?_
  clear hF hS; intro a w hF hS
  refine wpl_ef hF hS rfl (ef_allocA ty29) ?_
  clear hF hS; rintro _ _ _ a w ⟨b13, rfl, rfl, rfl⟩ hF hS
  rw [show List.replicate 16 (Value.int .u8 0) = (List.replicate 16 (0 : UInt8)).map vb from by rw [List.map_replicate] <;> rfl] at hS
  refine wpl_ef hF hS rfl (ef_storeW ty29 0 rfl rfl rfl rfl bQ oQ bQ) ?_
  clear hF hS; rintro _ _ _ a w ⟨rfl, rfl, rfl⟩ hF hS
  replace hS : St _ [_, _, _, _, _, _] [_] _ := hS
  refine wpl_sq hF hS (sq rfl (q_assign rfl) <|
    sq_end) ?_
  clear hF hS; intro a w hF hS
  refine wpList_nil ?_
  refine hK8 _ _ ?_
  clear hK8
  refine wp_seq_k ?_; intro K9 hK9
  refine regl ?_
  refine wpl_sq hF hS (sq rfl (q_move rfl) <|
    sq rfl (q_move rfl) <|
    sq rfl (q_idx_sl ty27 ty24 hzL rfl rfl (by omega)) <|
    sq rfl (q_ld_Sl ty24 hzL (.inr (by simp)) rfl rfl (by omega)) <|
    sq rfl (q_call fn14 rfl (fun w hS => rroot_ct _ _ w (Sl.mono (hS.le (.inr (by simp))) (elemV_sl hzL (by omega))) (hS.ext _ _ hg0)) (fun _ _ _ h => h)) <|
    sq rfl (q_move rfl) <|
    sq rfl (q_extract rfl rfl) <|
    sq rfl (q_extract rfl rfl) <|
    sq_end) ?_
  clear hF hS; intro a w hF hS
  refine wpl_ef hF hS rfl (ef_allocA ty29) ?_
  clear hF hS; rintro _ _ _ a w ⟨b14, rfl, rfl, rfl⟩ hF hS
  rw [show List.replicate 16 (Value.int .u8 0) = (List.replicate 16 (0 : UInt8)).map vb from by rw [List.map_replicate] <;> rfl] at hS
  refine wpl_ef hF hS rfl (ef_storeW ty29 0 rfl rfl rfl rfl bQ oQ bQ) ?_
  clear hF hS; rintro _ _ _ a w ⟨rfl, rfl, rfl⟩ hF hS
  replace hS : St _ [_, _, _, _, _, _] [_, _] _ := hS
  refine wpl_sq hF hS (sq rfl (q_assign rfl) <|
    sq_end) ?_
  clear hF hS; intro a w hF hS
  refine wpList_nil ?_
  refine hK9 _ _ ?_
  clear hK9
  refine wp_seq_k ?_; intro K10 hK10
  revert hS; revert hF; apply regJ (J := J2 (α0 := Value) (α1 := PH) 92 _ _ _ _ _) #[false, false, false, false, false, false, false, false, false, false, false, false, false, false, false, false, false, false, false, false, false, false] 22 mixed rfl rfl
  ·intro w hF hS
   refine goW_take 0 _ rfl kQ rfl hF (hS.keep sQ zQ) (q_move rfl) ?_
   clear hF; intro a hF
   refine goW_take 1 _ rfl kQ rfl hF (hS.keep sQ zQ) (q_move rfl) ?_
   clear hF; intro a hF
   refine goW_take 2 _ rfl kQ rfl hF (hS.keep sQ zQ) (q_idx_sl ty27 ty24 hzL rfl rfl (by omega)) ?_
   clear hF; intro a hF
   refine goW_take 3 _ rfl kQ rfl hF (hS.keep sQ zQ) (q_ld_Sl ty24 hzL (.inr (by simp)) rfl rfl (by omega)) ?_
   clear hF; intro a hF
   refine goW_take 6 _ rfl kQ rfl hF (hS.keep sQ zQ) (q_move rfl) ?_
   clear hF; intro a hF
   refine goW_take 7 _ rfl kQ rfl hF (hS.keep sQ zQ) (q_move rfl) ?_
   clear hF; intro a hF
   refine goW_take 8 _ rfl kQ rfl hF (hS.keep sQ zQ) (q_idx_sl ty27 ty24 hzL rfl rfl (by omega)) ?_
   clear hF; intro a hF
   refine goW_take 9 _ rfl kQ rfl hF (hS.keep sQ zQ) (q_ld_Sl ty24 hzL (.inr (by simp)) rfl rfl (by omega)) ?_
   clear hF; intro a hF
   refine gQ 4 rfl rfl hF hS rfl (ef_call fn13 rfl (fun w hS => own_ct _ _ (by omega) w (Sl.mono (hS.le (.inr (by simp))) (elemV_sl hzL (by omega))))) ?_
   clear hF hS; rintro v_7_4 _ _ a w ⟨_, _, rfl, rfl, ⟨z_7_4, hz_7_4, rfl, rfl⟩⟩ hF hS
   refine ⟨⟨.inr (hS.keep (sQ.n) zQ), .inr (hS.keep (sQ.n) zQ), .inr (hS.keep (sQ.n) zQ), .inr (hS.keep (sQ.n) zQ), iQ, iQ, .inr (hS.keep (sQ.n) zQ), .inr (hS.keep (sQ.n) zQ), trivial⟩, ?_⟩
   refine gQ 5 rfl rfl hF hS rfl (ef_qt (q_call fn15 rfl (fun w hS => valid_ct _ _ w (Sl.mono (hS.le (.inr (by simp))) hz_7_4)) (fun _ _ _ h => h))) ?_
   clear hF hS; rintro _ _ _ a w ⟨rfl, rfl, rfl⟩ hF hS
   refine ⟨⟨.inr (hS.keep (sQ.n) zQ), .inr (hS.keep (sQ.n) zQ), .inr (hS.keep (sQ.n) zQ), .inr (hS.keep (sQ.n) zQ), iQ, iQ, .inr (hS.keep (sQ.n) zQ), .inr (hS.keep (sQ.n) zQ), trivial⟩, ?_⟩
   refine gQ 10 rfl rfl hF hS rfl (ef_qt (q_call fn16 rfl (fun w hS => rvalid_ct _ _ w (Sl.mono (hS.le (.inr (by simp))) (elemV_sl hzL (by omega)))) (fun _ _ _ h => h))) ?_
   clear hF hS; rintro _ _ _ a w ⟨rfl, rfl, rfl⟩ hF hS
   refine ⟨⟨iQ, iQ, .inr (hS.keep (sQ.n) zQ), .inr (hS.keep (sQ.n) zQ), iQ, iQ, .inr (hS.keep (sQ.n) zQ), .inr (hS.keep (sQ.n) zQ), trivial⟩, ?_⟩
   refine goW_take 11 _ rfl kQ rfl hF (hS.keep sQ zQ) (q_nf (q_nei rfl rfl) (rfl)) ?_
   clear hF; intro a hF
   refine goW_take 12 _ rfl kQ rfl hF (hS.keep sQ zQ) (q_move rfl) ?_
   clear hF; intro a hF
   refine goW_takeg 13 _ rfl (wanted_go 55 rfl rfl) kQ rfl hF (hS.keep sQ zQ) (q_move rfl) ?_
   clear hF; intro a hF
   refine goW_takeg 14 _ rfl (wanted_go 55 rfl rfl) kQ rfl hF (hS.keep sQ zQ) (q_move rfl) ?_
   clear hF; intro a hF
   refine goW_takeg 15 _ rfl (wanted_go 55 rfl rfl) kQ rfl hF (hS.keep sQ zQ) (q_nf (q_nei rfl rfl) (rfl)) ?_
   clear hF; intro a hF
   refine goW_take 16 _ rfl kQ rfl hF (hS.keep sQ zQ) (q_pick_f rfl rfl) ?_
   clear hF; intro a hF
   refine goW_take 17 _ rfl kQ rfl hF (hS.keep sQ zQ) (q_move rfl) ?_
   clear hF; intro a hF
   refine goW_takeg 18 _ rfl (wanted_go 60 rfl rfl) kQ rfl hF (hS.keep sQ (sQ.n)) (q_ld_blkW ty29 0 rfl rfl bQ rfl) ?_
   clear hF; intro a hF
   refine goW_takeg 19 _ rfl (wanted_go 60 rfl rfl) kQ rfl hF (hS.keep sQ (zQ.k)) (q_ld_blkW ty29 0 rfl rfl bQ rfl) ?_
   clear hF; intro a hF
   refine goW_takeg 20 _ rfl (wanted_go 60 rfl rfl) kQ rfl hF (hS.keep sQ zQ) (q_nf (q_neAB ty29 ty5 kQ rfl rfl bQ bQ) (rfl)) ?_
   clear hF; intro a hF
   refine goW_take 21 _ rfl kQ rfl hF (hS.keep sQ zQ) (q_pick_f rfl rfl) ?_
   clear hF; intro a hF
   exact goW_done kQ (j2_mk v_7_4 z_7_4 ((And.intro hz_7_4 trivial)) (hF.sub (L' := [(2, _), (7, _), (8, _), (64, _)]) ⟨rfl, rfl, rfl, rfl, trivial⟩) hS)
  rintro a w ⟨v_7_4, z_7_4, ⟨hz_7_4, -⟩, hF, hS⟩
  (try dsimp only at hF); (try dsimp only at hS)
  refine hK10 _ _ ?_
  clear hK10
  refine wp_if hF rfl (fun h => absurd h (by simp)) (fun _ => ?_)
  refine wp_skip ?_
  refine hK7 _ _ ?_
  clear hK7
  refine reg hF hS (sq rfl (q_move rfl) <|
    sq rfl (q_addi rfl rfl (by omega)) <|
    sq rfl (q_assign rfl) <|
    sq_end) ?_
  clear hF hS; intro a w hF hS
  replace hS := hS.keep (sQ.n.n) zQ
  refine ⟨(i + 1), ?_, ?_, hF.sub ⟨rfl, rfl, rfl, trivial⟩, ?_⟩
  ·(try dsimp only); omega
  ·(try dsimp only); omega
  ·exact hS
 ·refine wp_exit ?_
  refine hK3 _ _ ?_
  clear hK3
  refine wp_seq_k ?_; intro K11 hK11
  refine reg hF hS (sq rfl (q_move rfl) <|
    sq rfl (q_call fn17 rfl (fun w hS => arnd_ct _ _ (by omega) (by omega) w ) (fun _ _ _ h => h)) <|
    sq rfl (q_addi rfl rfl (by omega)) <|
    sq rfl (q_assign rfl) <|
    sq_end) ?_
  clear hF hS; intro a w hF hS
  rw [hmN] at hF
  refine hK11 _ _ ?_
  clear hK11
  refine wp_seq_k ?_; intro K12 hK12
  refine wp_seq_k ?_; intro K13 hK13
  revert hS; revert hF; apply regJ (J := J2 (α0 := Value) (α1 := Value) 92 _ _ _ _ _) #[false, false, false, false, false, false, false] 7 mixed rfl rfl
  ·intro w hF hS
   refine goW_take 0 _ rfl kQ rfl hF (hS.keep sQ zQ) (q_move rfl) ?_
   clear hF; intro a hF
   refine goW_take 3 _ rfl kQ rfl hF (hS.keep sQ zQ) (q_move rfl) ?_
   clear hF; intro a hF
   refine goW_fork [1, 4] kQ rfl ⟨?_, ?_, trivial⟩
   ·refine stepW_ef _ rfl rfl hF hS rfl (ef_mksS (zc := [vs [], vs []]) ty33 ty41 rfl rfl (by omega) (by omega) rfl (by decide) (by omega)) ?_
    clear hF hS; rintro v_10_1 _ _ a w ⟨rfl, rfl⟩ hF hS
    refine ⟨⟨.inr (hS.keep sQ zQ), iQ, trivial⟩, ?_⟩
    refine goW_fork [2, 4] kQ rfl ⟨?_, ?_, trivial⟩
    ·refine stepW_ef _ rfl rfl hF hS rfl (ef_qt (q_call fn15 rfl (fun w hS => valid_ct _ _ w (own_F_rep (hS.own _ (List.mem_of_getElem? (i := 0) rfl)).1 (by omega))) (fun _ _ _ h => h))) ?_
     clear hF hS; rintro _ _ _ a w ⟨rfl, rfl, rfl⟩ hF hS
     refine ⟨⟨.inr (hS.keep sQ zQ), iQ, trivial⟩, ?_⟩
     refine gQ 4 rfl rfl hF hS rfl (ef_mksS (zc := [vs [], vs []]) ty24 ty75 rfl rfl (by omega) (by omega) rfl (by decide) (by omega)) ?_
     clear hF hS; rintro v_10_4 _ _ a w ⟨rfl, rfl⟩ hF hS
     refine ⟨⟨iQ, iQ, trivial⟩, ?_⟩
     refine gQ 5 rfl rfl hF hS rfl (ef_qt (q_call fn16 rfl (fun w hS => rvalid_ct _ _ w (own_F_rep (hS.own _ (List.mem_of_getElem? (i := 0) rfl)).1 (by omega))) (fun _ _ _ h => h))) ?_
     clear hF hS; rintro _ _ _ a w ⟨rfl, rfl, rfl⟩ hF hS
     refine ⟨⟨iQ, iQ, trivial⟩, ?_⟩
     refine goW_take 6 _ rfl kQ rfl hF (hS.keep sQ zQ) (q_nf (q_nei rfl rfl) (rfl)) ?_
     clear hF; intro a hF
     exact goW_done kQ (j2_mk v_10_1 v_10_4 (trivial) (hF.sub (L' := [(2, _), (74, _)]) ⟨rfl, rfl, trivial⟩) hS)
    ·refine stepW_ef _ rfl rfl hF hS rfl (ef_mksS (zc := [vs [], vs []]) ty24 ty75 rfl rfl (by omega) (by omega) rfl (by decide) (by omega)) ?_
     clear hF hS; rintro v_10_4 _ _ a w ⟨rfl, rfl⟩ hF hS
     refine ⟨⟨iQ, iQ, trivial⟩, ?_⟩
     refine gQ 2 rfl rfl hF hS rfl (ef_qt (q_call fn15 rfl (fun w hS => valid_ct _ _ w (own_F_rep (hS.own _ (List.mem_of_getElem? (i := 1) rfl)).1 (by omega))) (fun _ _ _ h => h))) ?_
     clear hF hS; rintro _ _ _ a w ⟨rfl, rfl, rfl⟩ hF hS
     refine ⟨⟨iQ, iQ, trivial⟩, ?_⟩
     refine gQ 5 rfl rfl hF hS rfl (ef_qt (q_call fn16 rfl (fun w hS => rvalid_ct _ _ w (own_F_rep (hS.own _ (List.mem_of_getElem? (i := 0) rfl)).1 (by omega))) (fun _ _ _ h => h))) ?_
     clear hF hS; rintro _ _ _ a w ⟨rfl, rfl, rfl⟩ hF hS
     refine ⟨⟨iQ, iQ, trivial⟩, ?_⟩
     refine goW_take 6 _ rfl kQ rfl hF (hS.keep sQ zQ) (q_nf (q_nei rfl rfl) (rfl)) ?_
     clear hF; intro a hF
     exact goW_done kQ (j2_mk v_10_1 v_10_4 (trivial) (hF.sub (L' := [(2, _), (74, _)]) ⟨rfl, rfl, trivial⟩) hS)
   ·refine stepW_ef _ rfl rfl hF hS rfl (ef_mksS (zc := [vs [], vs []]) ty24 ty75 rfl rfl (by omega) (by omega) rfl (by decide) (by omega)) ?_
    clear hF hS; rintro v_10_4 _ _ a w ⟨rfl, rfl⟩ hF hS
    refine ⟨⟨iQ, .inr (hS.keep sQ zQ), trivial⟩, ?_⟩
    refine gQ 1 rfl rfl hF hS rfl (ef_mksS (zc := [vs [], vs []]) ty33 ty41 rfl rfl (by omega) (by omega) rfl (by decide) (by omega)) ?_
    clear hF hS; rintro v_10_1 _ _ a w ⟨rfl, rfl⟩ hF hS
    refine ⟨⟨iQ, iQ, trivial⟩, ?_⟩
    refine gQ 2 rfl rfl hF hS rfl (ef_qt (q_call fn15 rfl (fun w hS => valid_ct _ _ w (own_F_rep (hS.own _ (List.mem_of_getElem? (i := 0) rfl)).1 (by omega))) (fun _ _ _ h => h))) ?_
    clear hF hS; rintro _ _ _ a w ⟨rfl, rfl, rfl⟩ hF hS
    refine ⟨⟨iQ, iQ, trivial⟩, ?_⟩
    refine gQ 5 rfl rfl hF hS rfl (ef_qt (q_call fn16 rfl (fun w hS => rvalid_ct _ _ w (own_F_rep (hS.own _ (List.mem_of_getElem? (i := 1) rfl)).1 (by omega))) (fun _ _ _ h => h))) ?_
    clear hF hS; rintro _ _ _ a w ⟨rfl, rfl, rfl⟩ hF hS
    refine ⟨⟨iQ, iQ, trivial⟩, ?_⟩
    refine goW_take 6 _ rfl kQ rfl hF (hS.keep sQ zQ) (q_nf (q_nei rfl rfl) (rfl)) ?_
    clear hF; intro a hF
    exact goW_done kQ (j2_mk v_10_1 v_10_4 (trivial) (hF.sub (L' := [(2, _), (74, _)]) ⟨rfl, rfl, trivial⟩) (hS.perm (.swap _ _ _)))
  rintro a w ⟨v_10_1, v_10_4, -, hF, hS⟩
  (try dsimp only at hF); (try dsimp only at hS)
  refine hK13 _ _ ?_
  clear hK13
  refine wp_if hF rfl (fun h => absurd h (by simp)) (fun _ => ?_)
  refine wp_skip ?_
  refine hK12 _ _ ?_
  clear hK12
  refine wp_seq_k ?_; intro K14 hK14
  refine regl ?_
  refine wpl_sq hF hS (sq rfl (q_move rfl) <|
    sq rfl (q_call fn17 rfl (fun w hS => arnd_ct _ _ (by omega) (by omega) w ) (fun _ _ _ h => h)) <|
    sq rfl (q_addi rfl rfl (by omega)) <|
    sq_end) ?_
  clear hF hS; intro a w hF hS
  refine wpl_ef hF hS rfl (ef_mks (m := mW) ty39 ty5 (by rw [← hmW]; rfl) (by rw [← hmW]; rfl) (by omega) (by omega) rfl) ?_
  clear hF hS; rintro v15 _ _ a w ⟨rfl, rfl⟩ hF hS
  replace hS : St _ [_, _, _, _, _] [_, _, _] _ := hS
  refine wpl_sq hF hS (sq rfl (q_b2s_row (xs := List.replicate mW 0) ty39 ty9 ty5 0 (by rw [List.map_replicate]; rfl) rfl) <|
    sq rfl (q_buildS1 ty41 2 kQ rfl rfl (oc_cons rfl (oc_cons rfl oc_nil)) rfl rfl) <|
    sq rfl (q_buildP (places := [(0, 1), (1, 1)]) (cells := [_, .string ⟨(List.nil : List UInt8).toArray⟩]) ty41 kQ rfl (by rfl)) <|
    sq_end) ?_
  clear hF hS; intro a w hF hS
  refine wpl_ef hF hS rfl (ef_bsliceC ty33 ty41 [[_, _], [_, _]] rfl rfl (by simp) (oc2_cons (oc_cons rfl (oc_cons rfl oc_nil)) (oc2_cons (oc_cons rfl (oc_cons rfl oc_nil)) oc2_nil)) (by decide) rfl rfl) ?_
  clear hF hS; rintro v17 _ _ a w ⟨rfl, rfl⟩ hF hS
  replace hS : St _ [_, _, _, _, _] [_, _, _, _] _ := hS
  refine wpl_sq hF hS (sq rfl (q_assign rfl) <|
    sq_end) ?_
  clear hF hS; intro a w hF hS
  refine wpList_nil ?_
  obtain ⟨zw, hzw, hS⟩ := St.freezeF (xs := [([97], List.replicate mW 0), ([98], [])]) (hS.rowEq (m' := List.length ([([97], List.replicate mW 0), ([98], [])])) (cs' := List.flatMap kvC ([([97], List.replicate mW 0), ([98], [])])) rfl rfl) rfl (Nat.le_of_ble_eq_true rfl) (fun x hx => by simp only [List.mem_cons, List.not_mem_nil, or_false] at hx; rcases hx with rfl | rfl <;> exact ⟨Nat.le_of_ble_eq_true rfl, by first | exact Nat.le_of_ble_eq_true rfl | (show (List.replicate mW (0 : UInt8)).length ≤ _; rw [hrl0]; omega)⟩)
  rw [← hWW] at hzw
  replace hS : St _ [_, _, _, _, _, _] [_, _, _] _ := hS
  refine hK14 _ _ ?_
  clear hK14
  refine wp_seq_k ?_; intro K15 hK15
  refine regl ?_
  refine wpl_sq hF hS (sq rfl (q_move rfl) <|
    sq rfl (q_call fn15 rfl (fun w hS => valid_ct _ _ w (Sl.mono (hS.le (.inr (by simp))) hzw)) (fun _ _ _ h => h)) <|
    sq rfl (q_move rfl) <|
    sq_end) ?_
  clear hF hS; intro a w hF hS
  refine wpl_ef hF hS rfl (ef_call fn18 rfl (fun w hS => plain_ct _ _ (by omega) w (Sl.mono (hS.le (.inr (by simp))) hzw))) ?_
  clear hF hS; rintro v19 _ _ a w ⟨_, _, rfl, rfl, ⟨z20, hz21, rfl, rfl⟩⟩ hF hS
  replace hS : St _ [_, _, _, _, _, _, _] [_, _, _] _ := hS
  refine wpl_sq hF hS (sq rfl (q_call fn16 rfl (fun w hS => rvalid_ct _ _ w (Sl.mono (hS.le (.inr (by simp))) hz21)) (fun _ _ _ h => h)) <|
    sq rfl (q_dt (q_eqi rfl rfl) (rfl)) <|
    sq rfl (q_move rfl) <|
    sq_go 89 rfl rfl rfl (q_call fn19 rfl (fun w hS => lives_ct w (hS.ext _ _ hg1)) (fun _ _ _ h => h)) <|
    sq rfl (q_pick_t rfl rfl) <|
    sq rfl (q_assign rfl) <|
    sq_end) ?_
  clear hF hS; intro a w hF hS
  refine wpList_nil ?_
  refine hK15 _ _ ?_
  clear hK15
  refine wp_ret ?_
  exact fn_ret (rs := [.tmp 6]) rfl hF hS (vs := [_]) ⟨rfl, trivial⟩ zQ zQ (rfl)
end Go.Proofs.YtdojfnigffeblaaDoor
