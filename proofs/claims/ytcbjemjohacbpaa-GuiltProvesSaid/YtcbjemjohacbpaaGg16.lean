/- A text of a proof over this seat: walks over the program's functions and the plain laws that they need. -/
import Derived.Test.YtcbjemjohacbpaaGg15a
import Derived.Test.YtcbjemjohacbpaaGuA
import Derived.Test.YtcbjemjohacbpaaFwB
set_option linter.all false
namespace Go.Proofs.Ytcbjemjohacbpaa
open Go.Fw
theorem fn14 : FnOk Try.prog 14 := ⟨_, Try.func14, rfl, by kernel_rfl⟩
theorem fn16 : FnOk Try.prog 16 := ⟨_, Try.func16, rfl, by kernel_rfl⟩
theorem fn22 : FnOk Try.prog 22 := ⟨_, Try.func22, rfl, by kernel_rfl⟩
theorem fn26 : FnOk Try.prog 26 := ⟨_, Try.func26, rfl, by kernel_rfl⟩
theorem fn54 : FnOk Try.prog 54 := ⟨_, Try.func54, rfl, by kernel_rfl⟩
theorem fn55 : FnOk Try.prog 55 := ⟨_, Try.func55, rfl, by kernel_rfl⟩

theorem lives_law {i : Int} (h : 0 ≤ i ∧ i < 4) : Gu.ge Gu.exX (Gu.exB false) (Gu.mkB Gu.exX (List.getD [[3, 7], [5], [0, 1, 3, 5, 7], []] i.toNat []) (List.getD ([[3, 7], [5], [0, 1, 3, 5, 7], []] : List (List Int)) i.toNat []).length) = 0 ∧ Gu.gl Gu.exX (Gu.exB false) (Gu.mkB Gu.exX (List.getD [[3, 7], [5], [0, 1, 3, 5, 7], []] i.toNat []) (List.getD ([[3, 7], [5], [0, 1, 3, 5, 7], []] : List (List Int)) i.toNat []).length) = List.getD [[3], [5], [0], []] i.toNat [] ∧ Gu.gOld Gu.exX (Gu.exB false) (Gu.mkB Gu.exX (List.getD [[3, 7], [5], [0, 1, 3, 5, 7], []] i.toNat []) (List.getD ([[3, 7], [5], [0, 1, 3, 5, 7], []] : List (List Int)) i.toNat []).length) = decide (i = 2) ∧ Gu.hid Gu.exX (Gu.exB false) (Gu.mkB Gu.exX (List.getD [[3, 7], [5], [0, 1, 3, 5, 7], []] i.toNat []) (List.getD ([[3, 7], [5], [0, 1, 3, 5, 7], []] : List (List Int)) i.toNat []).length) = List.getD [[], [7], [], []] i.toNat [] ∧ Gu.togs Gu.exX (Gu.exB false) (Gu.mkB Gu.exX (List.getD [[3, 7], [5], [0, 1, 3, 5, 7], []] i.toNat []) (List.getD ([[3, 7], [5], [0, 1, 3, 5, 7], []] : List (List Int)) i.toNat []).length) = [] := by
 have : i = 0 ∨ i = 1 ∨ i = 2 ∨ i = 3 := by omega
 rcases this with rfl | rfl | rfl | rfl <;> decide +kernel
theorem li1 : Gu.ge Gu.exX (Gu.exB true) (Gu.mkB Gu.exX [5] [(5 : Int)].length) = 0 := by decide +kernel
theorem li2 : Gu.hde Gu.exX (Gu.exB true) (Gu.mkB Gu.exX [5] [(5 : Int)].length) 7 = 0 := by decide +kernel
theorem li3 : Gu.ge Gu.exX (Gu.exB false) (Gu.mkB Gu.exX [4] [(4 : Int)].length) = 1 := by decide +kernel
theorem li4 : Gu.togs Gu.exX (Gu.exB true) (Gu.mkB Gu.exX [5] [(5 : Int)].length) = [[5, 1, 4]] := by decide +kernel
theorem li5 : Gu.hds Gu.exX (Gu.exB true) (Gu.mkB Gu.exX [5] [(5 : Int)].length) 7 = [5] := by decide +kernel

set_option maxRecDepth 4000 in
set_option maxHeartbeats 2000000 in
theorem lives_ct (w : World) : Ct Try.prog 19 [] w (fun r _ _ => r = .bool true) := by
 refine fn_enter Try.func19 rfl Try.ntmps19 (Nat.le_of_ble_eq_true rfl) fun a hF hS => ?_
 have hx6 : Gu.exX.length = 6 := rfl
 have hb6 : (Gu.exB false).length = 6 := rfl
 have hb7 : (Gu.exB true).length = 6 := rfl
 have h4a : ([[3, 7], [5], [0, 1, 3, 5, 7], []] : List (List Int)).length = 4 := rfl
 have h4b : ([[3], [5], [0], []] : List (List Int)).length = 4 := rfl
 have h4c : ([[], [7], [], []] : List (List Int)).length = 4 := rfl
 refine wp_seq_k ?_; intro K1 hK1
 refine reg hF hS (sq rfl (q_assign rfl) <|
   sq_end) ?_
 clear hF hS; intro a w hF hS
 refine hK1 _ _ ?_
 clear hK1
 refine wp_seq_k ?_; intro K2 hK2
 refine regl ?_
 refine wpl_ef hF hS rfl (ef_call fn54 rfl (fun w hS => example_ct _ w )) ?_
 clear hF hS; rintro _ _ _ a w ⟨_, _, rfl, rfl, ⟨nv2, sv3, bv4, ns5, z6, rfl, hn7, hs8, hb9, rfl, rfl⟩⟩ hF hS
 replace hS : St _ [_] [] _ := hS
 refine wpl_ef hF hS rfl (ef_allocA ty29) ?_
 clear hF hS; rintro _ _ _ a w ⟨b10, rfl, rfl, rfl⟩ hF hS
 refine wpl_ef hF hS rfl (ef_storeW ty29 0 rfl rfl rfl rfl bQ (oc_cons (sl_one' hn7) (oc_cons (sl_one' hs8) (oc_cons (sl_one' hb9) oc_nil))) bQ) ?_
 clear hF hS; rintro _ _ _ a w ⟨rfl, rfl, rfl⟩ hF hS
 replace hS : St _ [_] [_] _ := hS
 refine wpList_nil ?_
 refine hK2 _ _ ?_
 clear hK2
 refine wp_seq_k ?_; intro K3 hK3
 refine regl ?_
 refine wpl_ef hF hS rfl (ef_bsliceA ty22 ty3 rfl rfl oQ (by decide) rfl rfl) ?_
 clear hF hS; rintro v11 _ _ a w ⟨rfl, rfl⟩ hF hS
 replace hS : St _ [_] [_, _] _ := hS
 refine wpl_ef hF hS rfl (ef_bsliceA ty22 ty3 rfl rfl oQ (by decide) rfl rfl) ?_
 clear hF hS; rintro v13 _ _ a w ⟨rfl, rfl⟩ hF hS
 replace hS : St _ [_] [_, _, _] _ := hS
 refine wpl_ef hF hS rfl (ef_bsliceA ty22 ty3 rfl rfl oQ (by decide) rfl rfl) ?_
 clear hF hS; rintro v15 _ _ a w ⟨rfl, rfl⟩ hF hS
 replace hS : St _ [_] [_, _, _, _] _ := hS
 have hoc19 := (oc_cons (row_one (hS.own _ (List.mem_of_getElem? (i := 2) rfl)).1) (oc_cons (row_one (hS.own _ (List.mem_of_getElem? (i := 1) rfl)).1) (oc_cons (row_one (hS.own _ (List.mem_of_getElem? (i := 0) rfl)).1) (oc_cons (show (Value.slice none 0 0).oneCell' = true from rfl) oc_nil))))
 refine wpl_ef hF hS rfl (ef_bsliceA ty43 ty22 rfl rfl (oc_cons (row_one (hS.own _ (List.mem_of_getElem? (i := 2) rfl)).1) (oc_cons (row_one (hS.own _ (List.mem_of_getElem? (i := 1) rfl)).1) (oc_cons (row_one (hS.own _ (List.mem_of_getElem? (i := 0) rfl)).1) (oc_cons (show (Value.slice none 0 0).oneCell' = true from rfl) oc_nil)))) (by decide) rfl rfl) ?_
 clear hF hS; rintro v17 _ _ a w ⟨rfl, rfl⟩ hF hS
 replace hS : St _ [_] [_, _, _, _, _] _ := hS
 refine wpl_sq hF hS (sq rfl (q_assign rfl) <|
   sq_end) ?_
 clear hF hS; intro a w hF hS
 refine wpList_nil ?_
 replace hS := hS.perm (.cons _ (.cons _ (.swap _ _ _)))
 replace hS := hS.perm (.cons _ (.swap _ _ _))
 replace hS := hS.perm (.swap _ _ _)
 obtain ⟨z20, hz21, hS⟩ := St.freezeV (f := vi) (p := fun x => -9223372036854775808 ≤ x ∧ x ≤ 9223372036854775807) (xs := [3, 7]) hS rfl (by decide) (by simp)
 replace hS : St _ [_, _] [_, _, _, _] _ := hS
 replace hS := hS.perm (.cons _ (.swap _ _ _))
 replace hS := hS.perm (.swap _ _ _)
 obtain ⟨z22, hz23, hS⟩ := St.freezeV (f := vi) (p := fun x => -9223372036854775808 ≤ x ∧ x ≤ 9223372036854775807) (xs := [5]) hS rfl (by decide) (by simp)
 replace hS : St _ [_, _, _] [_, _, _] _ := hS
 replace hS := hS.perm (.swap _ _ _)
 obtain ⟨z24, hz25, hS⟩ := St.freezeV (f := vi) (p := fun x => -9223372036854775808 ≤ x ∧ x ≤ 9223372036854775807) (xs := [0, 1, 3, 5, 7]) hS rfl (by decide) (by simp)
 replace hS : St _ [_, _, _, _] [_, _] _ := hS
 obtain ⟨zu, hzu, hS⟩ := hS.union
 replace hS : St _ [_, _, _, _, _] [_, _] _ := hS
 obtain ⟨z26, hz27, hS⟩ := St.freezeSl (E := encI) (xs := [[3, 7], [5], [0, 1, 3, 5, 7], []]) hS (z' := zu) (by simp) rfl (by decide) ⟨Sl.mono (hzu z20 (by simp)) hz21, Sl.mono (hzu z22 (by simp)) hz23, Sl.mono (hzu z24 (by simp)) hz25, sl_nil (z := zu), trivial⟩
 replace hS : St _ [_, _, _, _, _, _] [_] _ := hS
 refine hK3 _ _ ?_
 clear hK3
 refine wp_seq_k ?_; intro K4 hK4
 refine regl ?_
 refine wpl_ef hF hS rfl (ef_bsliceA ty22 ty3 rfl rfl oQ (by decide) rfl rfl) ?_
 clear hF hS; rintro v28 _ _ a w ⟨rfl, rfl⟩ hF hS
 replace hS : St _ [_, _, _, _, _, _] [_, _] _ := hS
 refine wpl_ef hF hS rfl (ef_bsliceA ty22 ty3 rfl rfl oQ (by decide) rfl rfl) ?_
 clear hF hS; rintro v30 _ _ a w ⟨rfl, rfl⟩ hF hS
 replace hS : St _ [_, _, _, _, _, _] [_, _, _] _ := hS
 refine wpl_ef hF hS rfl (ef_bsliceA ty22 ty3 rfl rfl oQ (by decide) rfl rfl) ?_
 clear hF hS; rintro v32 _ _ a w ⟨rfl, rfl⟩ hF hS
 replace hS : St _ [_, _, _, _, _, _] [_, _, _, _] _ := hS
 have hoc36 := (oc_cons (row_one (hS.own _ (List.mem_of_getElem? (i := 2) rfl)).1) (oc_cons (row_one (hS.own _ (List.mem_of_getElem? (i := 1) rfl)).1) (oc_cons (row_one (hS.own _ (List.mem_of_getElem? (i := 0) rfl)).1) (oc_cons (show (Value.slice none 0 0).oneCell' = true from rfl) oc_nil))))
 refine wpl_ef hF hS rfl (ef_bsliceA ty43 ty22 rfl rfl (oc_cons (row_one (hS.own _ (List.mem_of_getElem? (i := 2) rfl)).1) (oc_cons (row_one (hS.own _ (List.mem_of_getElem? (i := 1) rfl)).1) (oc_cons (row_one (hS.own _ (List.mem_of_getElem? (i := 0) rfl)).1) (oc_cons (show (Value.slice none 0 0).oneCell' = true from rfl) oc_nil)))) (by decide) rfl rfl) ?_
 clear hF hS; rintro v34 _ _ a w ⟨rfl, rfl⟩ hF hS
 replace hS : St _ [_, _, _, _, _, _] [_, _, _, _, _] _ := hS
 refine wpl_sq hF hS (sq rfl (q_assign rfl) <|
   sq_end) ?_
 clear hF hS; intro a w hF hS
 refine wpList_nil ?_
 replace hS := hS.perm (.cons _ (.cons _ (.swap _ _ _)))
 replace hS := hS.perm (.cons _ (.swap _ _ _))
 replace hS := hS.perm (.swap _ _ _)
 obtain ⟨z37, hz38, hS⟩ := St.freezeV (f := vi) (p := fun x => -9223372036854775808 ≤ x ∧ x ≤ 9223372036854775807) (xs := [3]) hS rfl (by decide) (by simp)
 replace hS : St _ [_, _, _, _, _, _, _] [_, _, _, _] _ := hS
 replace hS := hS.perm (.cons _ (.swap _ _ _))
 replace hS := hS.perm (.swap _ _ _)
 obtain ⟨z39, hz40, hS⟩ := St.freezeV (f := vi) (p := fun x => -9223372036854775808 ≤ x ∧ x ≤ 9223372036854775807) (xs := [5]) hS rfl (by decide) (by simp)
 replace hS : St _ [_, _, _, _, _, _, _, _] [_, _, _] _ := hS
 replace hS := hS.perm (.swap _ _ _)
 obtain ⟨z41, hz42, hS⟩ := St.freezeV (f := vi) (p := fun x => -9223372036854775808 ≤ x ∧ x ≤ 9223372036854775807) (xs := [0]) hS rfl (by decide) (by simp)
 replace hS : St _ [_, _, _, _, _, _, _, _, _] [_, _] _ := hS
 obtain ⟨zu, hzu, hS⟩ := hS.union
 replace hS : St _ [_, _, _, _, _, _, _, _, _, _] [_, _] _ := hS
 obtain ⟨z43, hz44, hS⟩ := St.freezeSl (E := encI) (xs := [[3], [5], [0], []]) hS (z' := zu) (by simp) rfl (by decide) ⟨Sl.mono (hzu z37 (by simp)) hz38, Sl.mono (hzu z39 (by simp)) hz40, Sl.mono (hzu z41 (by simp)) hz42, sl_nil (z := zu), trivial⟩
 replace hS : St _ [_, _, _, _, _, _, _, _, _, _, _] [_] _ := hS
 refine hK4 _ _ ?_
 clear hK4
 refine wp_seq_k ?_; intro K5 hK5
 refine regl ?_
 refine wpl_ef hF hS rfl (ef_bsliceA ty22 ty3 rfl rfl oQ (by decide) rfl rfl) ?_
 clear hF hS; rintro v45 _ _ a w ⟨rfl, rfl⟩ hF hS
 replace hS : St _ [_, _, _, _, _, _, _, _, _, _, _] [_, _] _ := hS
 have hoc49 := (oc_cons (show (Value.slice none 0 0).oneCell' = true from rfl) (oc_cons (row_one (hS.own _ (List.mem_of_getElem? (i := 0) rfl)).1) (oc_cons (show (Value.slice none 0 0).oneCell' = true from rfl) (oc_cons (show (Value.slice none 0 0).oneCell' = true from rfl) oc_nil))))
 refine wpl_ef hF hS rfl (ef_bsliceA ty43 ty22 rfl rfl (oc_cons (show (Value.slice none 0 0).oneCell' = true from rfl) (oc_cons (row_one (hS.own _ (List.mem_of_getElem? (i := 0) rfl)).1) (oc_cons (show (Value.slice none 0 0).oneCell' = true from rfl) (oc_cons (show (Value.slice none 0 0).oneCell' = true from rfl) oc_nil)))) (by decide) rfl rfl) ?_
 clear hF hS; rintro v47 _ _ a w ⟨rfl, rfl⟩ hF hS
 replace hS : St _ [_, _, _, _, _, _, _, _, _, _, _] [_, _, _] _ := hS
 refine wpl_sq hF hS (sq rfl (q_assign rfl) <|
   sq_end) ?_
 clear hF hS; intro a w hF hS
 refine wpList_nil ?_
 replace hS := hS.perm (.swap _ _ _)
 obtain ⟨z50, hz51, hS⟩ := St.freezeV (f := vi) (p := fun x => -9223372036854775808 ≤ x ∧ x ≤ 9223372036854775807) (xs := [7]) hS rfl (by decide) (by simp)
 replace hS : St _ [_, _, _, _, _, _, _, _, _, _, _, _] [_, _] _ := hS
 obtain ⟨zu, hzu, hS⟩ := hS.union
 replace hS : St _ [_, _, _, _, _, _, _, _, _, _, _, _, _] [_, _] _ := hS
 obtain ⟨z52, hz53, hS⟩ := St.freezeSl (E := encI) (xs := [[], [7], [], []]) hS (z' := zu) (by simp) rfl (by decide) ⟨sl_nil (z := zu), Sl.mono (hzu z50 (by simp)) hz51, sl_nil (z := zu), sl_nil (z := zu), trivial⟩
 replace hS : St _ [_, _, _, _, _, _, _, _, _, _, _, _, _, _] [_] _ := hS
 refine hK5 _ _ ?_
 clear hK5
 refine wp_seq_k ?_; intro K6 hK6
 refine wp_seq_k ?_; intro K7 hK7
 refine reg hF hS (sq rfl (q_assign rfl) <|
   sq_end) ?_
 clear hF hS; intro a w hF hS
 refine hK7 _ _ ?_
 clear hK7
 refine wp_block ?_
 obtain ⟨hs0, hhs0, hS⟩ : ∃ h, h = _ ∧ St _ _ h _ := ⟨_, rfl, hS⟩
 refine wp_loopx (γ := Int) (0) (fun (i : Int) => [(5, vi i)]) [(1, _), (2, _), (3, _), (4, _)] (fun (i : Int) => hs0) (fun (i : Int) => 0 ≤ i ∧ i ≤ 4) (fun (i : Int) => (4 - i).toNat) (hF.sub ⟨rfl, rfl, rfl, rfl, rfl, trivial⟩) (by subst hhs0; exact hS) (by exact ⟨Int.le_refl _, by omega⟩) ?_
 clear hF hS; rintro i a w hfact hF hS
 subst hhs0; (try dsimp only at hfact); (try dsimp only at hF); (try dsimp only at hS)
 obtain ⟨hi0, hi1⟩ := hfact
 replace hS : St _ [_, _, _, _, _, _, _, _, _, _, _, _, _, _] [_] _ := hS
 refine wp_seq_k ?_; intro K8 hK8
 refine wp_seq_k ?_; intro K9 hK9
 refine reg hF hS (sq rfl (q_move rfl) <|
   sq rfl (q_move rfl) <|
   sq rfl (q_len_sl ty43 hz27 rfl) <|
   sq rfl (q_lti rfl rfl) <|
   sq_end) ?_
 clear hF hS; intro a w hF hS
 refine hK9 _ _ ?_
 clear hK9
 refine wp_ifd hF rfl (fun hc1 => ?_) (fun hc1 => ?_)
 ·have hL := lives_law (i := i) ⟨hi0, by omega⟩
  refine wp_skip ?_
  refine hK8 _ _ ?_
  clear hK8
  refine wp_seq_k ?_; intro K10 hK10
  refine wp_block ?_
  refine wp_seq_k ?_; intro K11 hK11
  refine regt 5 mixed kQ hF hS (sq rfl (q_ld_blkW ty29 0 rfl rfl bQ rfl) <|
    sq rfl (q_move rfl) <|
    sq rfl (q_move rfl) <|
    sq rfl (q_idx_sl ty43 ty22 hz27 rfl rfl (by omega)) <|
    sq rfl (q_ld_Sl ty22 hz27 (.inr (by simp)) rfl rfl (by omega)) <|
    sq_end) ?_
  clear hF hS; intro a w hF hS
  refine wpl_ef hF hS rfl (ef_call fn55 rfl (fun w hS => marked_ct _ _ _ _ _ _ _ (by first | with_reducible assumption | omega) w (sl_one' hn7) (Sl.mono (hS.le (.inr (by simp))) hs8) (Sl.mono (hS.le (.inr (by simp))) hb9) (Sl.mono (hS.le (.inr (by simp))) (elemV_sl hz27 (by omega))))) ?_
  clear hF hS; rintro v54 _ _ a w ⟨_, _, rfl, rfl, ⟨z55, hz56, rfl, rfl⟩⟩ hF hS
  replace hS : St _ [_, _, _, _, _, _, _, _, _, _, _, _, _, _, _] [_] _ := hS
  refine wpl_sq hF hS (sq rfl (q_assign rfl) <|
    sq_end) ?_
  clear hF hS; intro a w hF hS
  refine wpList_nil ?_
  refine hK11 _ _ ?_
  clear hK11
  refine wp_seq_k ?_; intro K12 hK12
  refine regl ?_
  refine wpl_sq hF hS (sq rfl (q_ld_blkW ty29 0 rfl rfl bQ rfl) <|
    sq rfl (q_call fn14 rfl (fun w hS => own_ct _ _ _ _ _ w (sl_one' hn7) (Sl.mono (hS.le (.inr (by simp))) hs8) (Sl.mono (hS.le (.inr (by simp))) hb9)) (fun _ _ _ h => h)) <|
    sq rfl (q_move rfl) <|
    sq_end) ?_
  clear hF hS; intro a w hF hS
  refine wpl_ef hF hS rfl (ef_call fn13 rfl (fun w hS => guilty_ct _ _ _ _ _ _ _ (by first | with_reducible assumption | omega) w (sl_one' hn7) (Sl.mono (hS.le (.inr (by simp))) hs8) (Sl.mono (hS.le (.inr (by simp))) hb9) (Sl.mono (hS.le (.inr (by simp))) hz56))) ?_
  clear hF hS; rintro _ _ _ a w ⟨_, _, rfl, rfl, ⟨v58, z59, hz60, rfl, rfl, rfl⟩⟩ hF hS
  replace hS : St _ [_, _, _, _, _, _, _, _, _, _, _, _, _, _, _, _] [_] _ := hS
  refine wpl_sq hF hS (sq rfl (q_move rfl) <|
    sq rfl (q_extract rfl rfl) <|
    sq rfl (q_extract rfl rfl) <|
    sq rfl (q_assign rfl) <|
    sq rfl (q_assign rfl) <|
    sq_end) ?_
  clear hF hS; intro a w hF hS
  refine wpList_nil ?_
  refine hK12 _ _ ?_
  clear hK12
  refine wp_seq_k ?_; intro K13 hK13
  refine reg hF hS (sq rfl (q_ld_blkW ty29 0 rfl rfl bQ rfl) <|
    sq rfl (q_call fn14 rfl (fun w hS => own_ct _ _ _ _ _ w (sl_one' hn7) (Sl.mono (hS.le (.inr (by simp))) hs8) (Sl.mono (hS.le (.inr (by simp))) hb9)) (fun _ _ _ h => h)) <|
    sq rfl (q_move rfl) <|
    sq rfl (q_call fn16 rfl (fun w hS => older_ct _ _ _ _ _ _ _ (by first | with_reducible assumption | omega) w (sl_one' hn7) (Sl.mono (hS.le (.inr (by simp))) hs8) (Sl.mono (hS.le (.inr (by simp))) hb9) (Sl.mono (hS.le (.inr (by simp))) hz56)) (fun _ _ _ h => h)) <|
    sq rfl (q_move rfl) <|
    sq rfl (q_extract rfl rfl) <|
    sq rfl (q_extract rfl rfl) <|
    sq rfl (q_assign rfl) <|
    sq rfl (q_assign rfl) <|
    sq_end) ?_
  clear hF hS; intro a w hF hS
  refine hK13 _ _ ?_
  clear hK13
  refine wp_seq_k ?_; intro K14 hK14
  refine regl ?_
  refine wpl_sq hF hS (sq rfl (q_ld_blkW ty29 0 rfl rfl bQ rfl) <|
    sq rfl (q_call fn14 rfl (fun w hS => own_ct _ _ _ _ _ w (sl_one' hn7) (Sl.mono (hS.le (.inr (by simp))) hs8) (Sl.mono (hS.le (.inr (by simp))) hb9)) (fun _ _ _ h => h)) <|
    sq rfl (q_move rfl) <|
    sq_end) ?_
  clear hF hS; intro a w hF hS
  refine wpl_ef hF hS rfl (ef_call fn20 rfl (fun w hS => hidden_ct _ _ _ _ _ _ _ (by first | with_reducible assumption | omega) w (sl_one' hn7) (Sl.mono (hS.le (.inr (by simp))) hs8) (Sl.mono (hS.le (.inr (by simp))) hb9) (Sl.mono (hS.le (.inr (by simp))) hz56))) ?_
  clear hF hS; rintro _ _ _ a w ⟨_, _, rfl, rfl, ⟨v62, z63, hz64, rfl, rfl, rfl⟩⟩ hF hS
  replace hS : St _ [_, _, _, _, _, _, _, _, _, _, _, _, _, _, _, _, _] [_] _ := hS
  refine wpl_sq hF hS (sq rfl (q_move rfl) <|
    sq rfl (q_extract rfl rfl) <|
    sq rfl (q_extract rfl rfl) <|
    sq rfl (q_assign rfl) <|
    sq rfl (q_assign rfl) <|
    sq_end) ?_
  clear hF hS; intro a w hF hS
  refine wpList_nil ?_
  refine hK14 _ _ ?_
  clear hK14
  refine wp_seq_k ?_; intro K15 hK15
  refine regl ?_
  refine wpl_sq hF hS (sq rfl (q_ld_blkW ty29 0 rfl rfl bQ rfl) <|
    sq rfl (q_call fn14 rfl (fun w hS => own_ct _ _ _ _ _ w (sl_one' hn7) (Sl.mono (hS.le (.inr (by simp))) hs8) (Sl.mono (hS.le (.inr (by simp))) hb9)) (fun _ _ _ h => h)) <|
    sq rfl (q_move rfl) <|
    sq_end) ?_
  clear hF hS; intro a w hF hS
  refine wpl_ef hF hS rfl (ef_call fn22 rfl (fun w hS => together_ct _ _ _ _ _ _ _ (by first | with_reducible assumption | omega) w (sl_one' hn7) (Sl.mono (hS.le (.inr (by simp))) hs8) (Sl.mono (hS.le (.inr (by simp))) hb9) (Sl.mono (hS.le (.inr (by simp))) hz56))) ?_
  clear hF hS; rintro _ _ _ a w ⟨_, _, rfl, rfl, ⟨v66, z67, hz68, rfl, rfl, rfl⟩⟩ hF hS
  replace hS : St _ [_, _, _, _, _, _, _, _, _, _, _, _, _, _, _, _, _, _] [_] _ := hS
  refine wpl_sq hF hS (sq rfl (q_move rfl) <|
    sq rfl (q_extract rfl rfl) <|
    sq rfl (q_extract rfl rfl) <|
    sq rfl (q_assign rfl) <|
    sq rfl (q_assign rfl) <|
    sq_end) ?_
  clear hF hS; intro a w hF hS
  refine wpList_nil ?_
  refine hK15 _ _ ?_
  clear hK15
  refine wp_seq_k ?_; intro K16 hK16
  refine reg hF hS (sq rfl (q_move rfl) <|
    sq rfl (q_nf (q_nei rfl rfl) (hL.1)) <|
    sq rfl (q_move rfl) <|
    sq_go 75 rfl rfl rfl (q_move rfl) <|
    sq_go 75 rfl rfl rfl (q_nf (q_nei rfl rfl) (hL.1)) <|
    sq rfl (q_pick_f rfl rfl) <|
    sq rfl (q_move rfl) <|
    sq_go 79 rfl rfl rfl (q_move rfl) <|
    sq_go 79 rfl rfl rfl (q_nf (q_nei rfl rfl) (hL.1)) <|
    sq rfl (q_pick_f rfl rfl) <|
    sq rfl (q_move rfl) <|
    sq_go 83 rfl rfl rfl (q_move rfl) <|
    sq_go 83 rfl rfl rfl (q_nf (q_nei rfl rfl) (hL.1)) <|
    sq rfl (q_pick_f rfl rfl) <|
    sq rfl (q_move rfl) <|
    sq_go 87 rfl rfl rfl (q_move rfl) <|
    sq_go 87 rfl rfl rfl (q_move rfl) <|
    sq_go 87 rfl rfl rfl (q_move rfl) <|
    sq_go 87 rfl rfl rfl (q_idx_sl ty43 ty22 hz44 rfl rfl (by omega)) <|
    sq_go 87 rfl rfl rfl (q_ld_Sl ty22 hz44 (.inr (by simp)) rfl rfl (by omega)) <|
    sq_go 87 rfl rfl rfl (q_dt (q_call fn18 rfl (fun w hS => samei_ct _ _ _ _ w (Sl.mono (hS.le (.inr (by simp))) hz60) (Sl.mono (hS.le (.inr (by simp))) (elemV_sl hz44 (by omega)))) (fun _ _ _ h => h)) (hL.2.1)) <|
    sq_go 87 rfl rfl rfl (q_not rfl) <|
    sq rfl (q_pick_f rfl rfl) <|
    sq rfl (q_move rfl) <|
    sq_go 96 rfl rfl rfl (q_move rfl) <|
    sq_go 96 rfl rfl rfl (q_move rfl) <|
    sq_go 96 rfl rfl rfl (q_eqi rfl rfl) <|
    sq_go 96 rfl rfl rfl (q_bf (q_net ty4 rfl rfl) (by rw [hL.2.2.1]; simp)) <|
    sq rfl (q_pick_f rfl rfl) <|
    sq rfl (q_move rfl) <|
    sq_go 102 rfl rfl rfl (q_move rfl) <|
    sq_go 102 rfl rfl rfl (q_move rfl) <|
    sq_go 102 rfl rfl rfl (q_move rfl) <|
    sq_go 102 rfl rfl rfl (q_idx_sl ty43 ty22 hz53 rfl rfl (by omega)) <|
    sq_go 102 rfl rfl rfl (q_ld_Sl ty22 hz53 (.inr (by simp)) rfl rfl (by omega)) <|
    sq_go 102 rfl rfl rfl (q_dt (q_call fn18 rfl (fun w hS => samei_ct _ _ _ _ w (Sl.mono (hS.le (.inr (by simp))) hz64) (Sl.mono (hS.le (.inr (by simp))) (elemV_sl hz53 (by omega)))) (fun _ _ _ h => h)) (hL.2.2.2.1)) <|
    sq_go 102 rfl rfl rfl (q_not rfl) <|
    sq rfl (q_pick_f rfl rfl) <|
    sq rfl (q_move rfl) <|
    sq_go 111 rfl rfl rfl (q_move rfl) <|
    sq_go 111 rfl rfl rfl (q_len_sl ty43 hz68 rfl) <|
    sq_go 111 rfl rfl rfl (q_df (q_gti rfl rfl) (by rw [hL.2.2.2.2]; decide)) <|
    sq rfl (q_pick_f rfl rfl) <|
    sq_end) ?_
  clear hF hS; intro a w hF hS
  refine hK16 _ _ ?_
  clear hK16
  refine wp_if hF rfl (fun h => absurd h (by simp)) (fun _ => ?_)
  refine wp_skip ?_
  refine hK10 _ _ ?_
  clear hK10
  refine reg hF hS (sq rfl (q_move rfl) <|
    sq rfl (q_addi rfl rfl (by omega)) <|
    sq rfl (q_assign rfl) <|
    sq_end) ?_
  clear hF hS; intro a w hF hS
  replace hS := hS.keep (sQ.n.n.n.n) sQ
  refine ⟨(i + 1), ?_, ?_, hF.sub ⟨rfl, rfl, rfl, rfl, rfl, trivial⟩, ?_⟩
  ·(try dsimp only); omega
  ·(try dsimp only); omega
  ·exact hS
 ·refine wp_exit ?_
  refine hK6 _ _ ?_
  clear hK6
  refine wp_seq_k ?_; intro K17 hK17
  refine regl ?_
  refine wpl_ef hF hS rfl (ef_call fn54 rfl (fun w hS => example_ct _ w )) ?_
  clear hF hS; rintro _ _ _ a w ⟨_, _, rfl, rfl, ⟨nv70, sv71, bv72, ns73, z74, rfl, hn75, hs76, hb77, rfl, rfl⟩⟩ hF hS
  replace hS : St _ [_, _, _, _, _, _, _, _, _, _, _, _, _, _, _] [_] _ := hS
  refine wpl_ef hF hS rfl (ef_allocA ty29) ?_
  clear hF hS; rintro _ _ _ a w ⟨b78, rfl, rfl, rfl⟩ hF hS
  refine wpl_ef hF hS rfl (ef_storeW ty29 0 rfl rfl rfl rfl bQ (oc_cons (sl_one' hn75) (oc_cons (sl_one' hs76) (oc_cons (sl_one' hb77) oc_nil))) bQ) ?_
  clear hF hS; rintro _ _ _ a w ⟨rfl, rfl, rfl⟩ hF hS
  replace hS : St _ [_, _, _, _, _, _, _, _, _, _, _, _, _, _, _] [_, _] _ := hS
  refine wpList_nil ?_
  refine hK17 _ _ ?_
  clear hK17
  refine wp_seq_k ?_; intro K18 hK18
  revert hF hS; apply regJ (J := J5 (α0 := Value) (α1 := Value) (α2 := PH) (α3 := Value) (α4 := PH) 170 _ _ _ _ _) #[false, false, false, false, false, false, false, false, false, false, false] 11 mixed rfl rfl
  ·intro w hF hS
   refine goW_take 0 _ rfl kQ rfl hF (hS.keep sQ (zQ.k)) (q_ld_blkW ty29 0 rfl rfl bQ rfl) ?_
   clear hF; intro a hF
   refine goW_take 2 _ rfl kQ rfl hF (hS.keep sQ (zQ.k)) (q_ld_blkW ty29 0 rfl rfl bQ rfl) ?_
   clear hF; intro a hF
   refine goW_fork [1, 3] kQ rfl ⟨?_, ?_, trivial⟩
   ·refine stepW_ef _ rfl rfl hF hS rfl (ef_qt (q_call fn14 rfl (fun w hS => own_ct _ _ _ _ _ w (sl_one' hn75) (Sl.mono (hS.le (.inr (by simp))) hs76) (Sl.mono (hS.le (.inr (by simp))) hb77)) (fun _ _ _ h => h))) ?_
    clear hF hS; rintro _ _ _ a w ⟨rfl, rfl, rfl⟩ hF hS
    refine ⟨⟨.inr (hS.keep sQ (zQ.k)), iQ, trivial⟩, ?_⟩
    refine gQ 3 rfl rfl hF hS rfl (ef_bsliceA ty22 ty3 rfl rfl oQ (by decide) rfl rfl) ?_
    clear hF hS; rintro v_16_3 _ _ a w ⟨rfl, rfl⟩ hF hS
    refine ⟨⟨.inr (hS.keep sQ (zQ.k.n)), iQ, trivial⟩, ?_⟩
    refine gQ 4 rfl rfl hF hS rfl (ef_call fn55 rfl (fun w hS => marked_ct _ _ _ _ _ _ _ (by first | with_reducible assumption | omega) w (sl_one' hn75) (Sl.mono (hS.le (.inr (by simp))) hs76) (Sl.mono (hS.le (.inr (by simp))) hb77) (own_slV (f := vi) (xs := [5]) (hS.own _ (List.mem_of_getElem? (i := 0) rfl)).1 (by decide) rfl (by decide)))) ?_
    clear hF hS; rintro v_16_4 _ _ a w ⟨_, _, rfl, rfl, ⟨z_16_4, hz_16_4, rfl, rfl⟩⟩ hF hS
    refine ⟨⟨iQ, iQ, trivial⟩, ?_⟩
    refine gQ 5 rfl rfl hF hS rfl (ef_call fn22 rfl (fun w hS => together_ct _ _ _ _ _ _ _ (by first | with_reducible assumption | omega) w (sl_one' hn75) (Sl.mono (hS.le (.inr (by simp))) hs76) (Sl.mono (hS.le (.inr (by simp))) hb77) (Sl.mono (hS.le (.inr (by simp))) hz_16_4))) ?_
    clear hF hS; rintro _ _ _ a w ⟨_, _, rfl, rfl, ⟨v_16_5_1, z_16_5, hz_16_5, rfl, rfl, rfl⟩⟩ hF hS
    refine ⟨⟨iQ, iQ, trivial⟩, ?_⟩
    refine goW_take 6 _ rfl kQ rfl hF (hS.keep sQ zQ) (q_move rfl) ?_
    clear hF; intro a hF
    refine goW_take 7 _ rfl kQ rfl hF (hS.keep sQ zQ) (q_extract rfl rfl) ?_
    clear hF; intro a hF
    refine goW_take 8 _ rfl kQ rfl hF (hS.keep sQ zQ) (q_extract rfl rfl) ?_
    clear hF; intro a hF
    refine goW_take 9 _ rfl kQ rfl hF (hS.keep sQ zQ) (q_assign rfl) ?_
    clear hF; intro a hF
    refine goW_take 10 _ rfl kQ rfl hF (hS.keep sQ zQ) (q_assign rfl) ?_
    clear hF; intro a hF
    exact goW_done kQ (j5_mk v_16_3 v_16_4 z_16_4 v_16_5_1 z_16_5 ((And.intro hz_16_4 (And.intro hz_16_5 trivial))) (hF.sub (L' := [(1, _), (15, _), (16, _), (17, _)]) ⟨rfl, rfl, rfl, rfl, trivial⟩) hS)
   ·refine stepW_ef _ rfl rfl hF hS rfl (ef_bsliceA ty22 ty3 rfl rfl oQ (by decide) rfl rfl) ?_
    clear hF hS; rintro v_16_3 _ _ a w ⟨rfl, rfl⟩ hF hS
    refine ⟨⟨.inr (hS.keep sQ (zQ.k.n)), .inr (hS.keep sQ (zQ.k.n)), trivial⟩, ?_⟩
    refine gQ 1 rfl rfl hF hS rfl (ef_qt (q_call fn14 rfl (fun w hS => own_ct _ _ _ _ _ w (sl_one' hn75) (Sl.mono (hS.le (.inr (by simp))) hs76) (Sl.mono (hS.le (.inr (by simp))) hb77)) (fun _ _ _ h => h))) ?_
    clear hF hS; rintro _ _ _ a w ⟨rfl, rfl, rfl⟩ hF hS
    refine ⟨⟨.inr (hS.keep sQ (zQ.k.n)), iQ, trivial⟩, ?_⟩
    refine gQ 4 rfl rfl hF hS rfl (ef_call fn55 rfl (fun w hS => marked_ct _ _ _ _ _ _ _ (by first | with_reducible assumption | omega) w (sl_one' hn75) (Sl.mono (hS.le (.inr (by simp))) hs76) (Sl.mono (hS.le (.inr (by simp))) hb77) (own_slV (f := vi) (xs := [5]) (hS.own _ (List.mem_of_getElem? (i := 0) rfl)).1 (by decide) rfl (by decide)))) ?_
    clear hF hS; rintro v_16_4 _ _ a w ⟨_, _, rfl, rfl, ⟨z_16_4, hz_16_4, rfl, rfl⟩⟩ hF hS
    refine ⟨⟨iQ, iQ, trivial⟩, ?_⟩
    refine gQ 5 rfl rfl hF hS rfl (ef_call fn22 rfl (fun w hS => together_ct _ _ _ _ _ _ _ (by first | with_reducible assumption | omega) w (sl_one' hn75) (Sl.mono (hS.le (.inr (by simp))) hs76) (Sl.mono (hS.le (.inr (by simp))) hb77) (Sl.mono (hS.le (.inr (by simp))) hz_16_4))) ?_
    clear hF hS; rintro _ _ _ a w ⟨_, _, rfl, rfl, ⟨v_16_5_1, z_16_5, hz_16_5, rfl, rfl, rfl⟩⟩ hF hS
    refine ⟨⟨iQ, iQ, trivial⟩, ?_⟩
    refine goW_take 6 _ rfl kQ rfl hF (hS.keep sQ zQ) (q_move rfl) ?_
    clear hF; intro a hF
    refine goW_take 7 _ rfl kQ rfl hF (hS.keep sQ zQ) (q_extract rfl rfl) ?_
    clear hF; intro a hF
    refine goW_take 8 _ rfl kQ rfl hF (hS.keep sQ zQ) (q_extract rfl rfl) ?_
    clear hF; intro a hF
    refine goW_take 9 _ rfl kQ rfl hF (hS.keep sQ zQ) (q_assign rfl) ?_
    clear hF; intro a hF
    refine goW_take 10 _ rfl kQ rfl hF (hS.keep sQ zQ) (q_assign rfl) ?_
    clear hF; intro a hF
    exact goW_done kQ (j5_mk v_16_3 v_16_4 z_16_4 v_16_5_1 z_16_5 ((And.intro hz_16_4 (And.intro hz_16_5 trivial))) (hF.sub (L' := [(1, _), (15, _), (16, _), (17, _)]) ⟨rfl, rfl, rfl, rfl, trivial⟩) hS)
  rintro a w ⟨v_16_3, v_16_4, z_16_4, v_16_5_1, z_16_5, ⟨hz_16_4, hz_16_5, -⟩, hF, hS⟩
  (try dsimp only at hF); (try dsimp only at hS)
  refine hK18 _ _ ?_
  clear hK18
  refine wp_seq_k ?_; intro K19 hK19
  revert hF hS; apply regJ (J := J5 (α0 := Value) (α1 := Value) (α2 := PH) (α3 := Value) (α4 := PH) 170 _ _ _ _ _) #[false, false, false, false, false, false, false, false, false, false, false] 11 mixed rfl rfl
  ·intro w hF hS
   refine goW_take 0 _ rfl kQ rfl hF (hS.keep sQ (zQ.k.n)) (q_ld_blkW ty29 0 rfl rfl bQ rfl) ?_
   clear hF; intro a hF
   refine goW_take 2 _ rfl kQ rfl hF (hS.keep sQ (zQ.k.n)) (q_ld_blkW ty29 0 rfl rfl bQ rfl) ?_
   clear hF; intro a hF
   refine goW_fork [1, 3] kQ rfl ⟨?_, ?_, trivial⟩
   ·refine stepW_ef _ rfl rfl hF hS rfl (ef_qt (q_call fn14 rfl (fun w hS => own_ct _ _ _ _ _ w (sl_one' hn75) (Sl.mono (hS.le (.inr (by simp))) hs76) (Sl.mono (hS.le (.inr (by simp))) hb77)) (fun _ _ _ h => h))) ?_
    clear hF hS; rintro _ _ _ a w ⟨rfl, rfl, rfl⟩ hF hS
    refine ⟨⟨.inr (hS.keep sQ (zQ.k.n)), iQ, trivial⟩, ?_⟩
    refine gQ 3 rfl rfl hF hS rfl (ef_bsliceA ty22 ty3 rfl rfl oQ (by decide) rfl rfl) ?_
    clear hF hS; rintro v_17_3 _ _ a w ⟨rfl, rfl⟩ hF hS
    refine ⟨⟨.inr (hS.keep sQ (zQ.k.n.n)), iQ, trivial⟩, ?_⟩
    refine gQ 4 rfl rfl hF hS rfl (ef_call fn55 rfl (fun w hS => marked_ct _ _ _ _ _ _ _ (by first | with_reducible assumption | omega) w (sl_one' hn75) (Sl.mono (hS.le (.inr (by simp))) hs76) (Sl.mono (hS.le (.inr (by simp))) hb77) (own_slV (f := vi) (xs := [5]) (hS.own _ (List.mem_of_getElem? (i := 0) rfl)).1 (by decide) rfl (by decide)))) ?_
    clear hF hS; rintro v_17_4 _ _ a w ⟨_, _, rfl, rfl, ⟨z_17_4, hz_17_4, rfl, rfl⟩⟩ hF hS
    refine ⟨⟨iQ, iQ, trivial⟩, ?_⟩
    refine gQ 5 rfl rfl hF hS rfl (ef_call fn26 rfl (fun w hS => hides_ct _ _ _ _ _ _ _ _ (by first | with_reducible assumption | omega) w (sl_one' hn75) (Sl.mono (hS.le (.inr (by simp))) hs76) (Sl.mono (hS.le (.inr (by simp))) hb77) (Sl.mono (hS.le (.inr (by simp))) hz_17_4))) ?_
    clear hF hS; rintro _ _ _ a w ⟨_, _, rfl, rfl, ⟨v_17_5_1, z_17_5, hz_17_5, rfl, rfl, rfl⟩⟩ hF hS
    refine ⟨⟨iQ, iQ, trivial⟩, ?_⟩
    refine goW_take 6 _ rfl kQ rfl hF (hS.keep sQ zQ) (q_move rfl) ?_
    clear hF; intro a hF
    refine goW_take 7 _ rfl kQ rfl hF (hS.keep sQ zQ) (q_extract rfl rfl) ?_
    clear hF; intro a hF
    refine goW_take 8 _ rfl kQ rfl hF (hS.keep sQ zQ) (q_extract rfl rfl) ?_
    clear hF; intro a hF
    refine goW_take 9 _ rfl kQ rfl hF (hS.keep sQ zQ) (q_assign rfl) ?_
    clear hF; intro a hF
    refine goW_take 10 _ rfl kQ rfl hF (hS.keep sQ zQ) (q_assign rfl) ?_
    clear hF; intro a hF
    exact goW_done kQ (j5_mk v_17_3 v_17_4 z_17_4 v_17_5_1 z_17_5 ((And.intro hz_17_4 (And.intro hz_17_5 trivial))) (hF.sub (L' := [(1, _), (16, _), (17, _), (18, _), (19, _)]) ⟨rfl, rfl, rfl, rfl, rfl, trivial⟩) hS)
   ·refine stepW_ef _ rfl rfl hF hS rfl (ef_bsliceA ty22 ty3 rfl rfl oQ (by decide) rfl rfl) ?_
    clear hF hS; rintro v_17_3 _ _ a w ⟨rfl, rfl⟩ hF hS
    refine ⟨⟨.inr (hS.keep sQ (zQ.k.n.n)), .inr (hS.keep sQ (zQ.k.n.n)), trivial⟩, ?_⟩
    refine gQ 1 rfl rfl hF hS rfl (ef_qt (q_call fn14 rfl (fun w hS => own_ct _ _ _ _ _ w (sl_one' hn75) (Sl.mono (hS.le (.inr (by simp))) hs76) (Sl.mono (hS.le (.inr (by simp))) hb77)) (fun _ _ _ h => h))) ?_
    clear hF hS; rintro _ _ _ a w ⟨rfl, rfl, rfl⟩ hF hS
    refine ⟨⟨.inr (hS.keep sQ (zQ.k.n.n)), iQ, trivial⟩, ?_⟩
    refine gQ 4 rfl rfl hF hS rfl (ef_call fn55 rfl (fun w hS => marked_ct _ _ _ _ _ _ _ (by first | with_reducible assumption | omega) w (sl_one' hn75) (Sl.mono (hS.le (.inr (by simp))) hs76) (Sl.mono (hS.le (.inr (by simp))) hb77) (own_slV (f := vi) (xs := [5]) (hS.own _ (List.mem_of_getElem? (i := 0) rfl)).1 (by decide) rfl (by decide)))) ?_
    clear hF hS; rintro v_17_4 _ _ a w ⟨_, _, rfl, rfl, ⟨z_17_4, hz_17_4, rfl, rfl⟩⟩ hF hS
    refine ⟨⟨iQ, iQ, trivial⟩, ?_⟩
    refine gQ 5 rfl rfl hF hS rfl (ef_call fn26 rfl (fun w hS => hides_ct _ _ _ _ _ _ _ _ (by first | with_reducible assumption | omega) w (sl_one' hn75) (Sl.mono (hS.le (.inr (by simp))) hs76) (Sl.mono (hS.le (.inr (by simp))) hb77) (Sl.mono (hS.le (.inr (by simp))) hz_17_4))) ?_
    clear hF hS; rintro _ _ _ a w ⟨_, _, rfl, rfl, ⟨v_17_5_1, z_17_5, hz_17_5, rfl, rfl, rfl⟩⟩ hF hS
    refine ⟨⟨iQ, iQ, trivial⟩, ?_⟩
    refine goW_take 6 _ rfl kQ rfl hF (hS.keep sQ zQ) (q_move rfl) ?_
    clear hF; intro a hF
    refine goW_take 7 _ rfl kQ rfl hF (hS.keep sQ zQ) (q_extract rfl rfl) ?_
    clear hF; intro a hF
    refine goW_take 8 _ rfl kQ rfl hF (hS.keep sQ zQ) (q_extract rfl rfl) ?_
    clear hF; intro a hF
    refine goW_take 9 _ rfl kQ rfl hF (hS.keep sQ zQ) (q_assign rfl) ?_
    clear hF; intro a hF
    refine goW_take 10 _ rfl kQ rfl hF (hS.keep sQ zQ) (q_assign rfl) ?_
    clear hF; intro a hF
    exact goW_done kQ (j5_mk v_17_3 v_17_4 z_17_4 v_17_5_1 z_17_5 ((And.intro hz_17_4 (And.intro hz_17_5 trivial))) (hF.sub (L' := [(1, _), (16, _), (17, _), (18, _), (19, _)]) ⟨rfl, rfl, rfl, rfl, rfl, trivial⟩) hS)
  rintro a w ⟨v_17_3, v_17_4, z_17_4, v_17_5_1, z_17_5, ⟨hz_17_4, hz_17_5, -⟩, hF, hS⟩
  (try dsimp only at hF); (try dsimp only at hS)
  refine hK19 _ _ ?_
  clear hK19
  refine wp_seq_k ?_; intro K20 hK20
  revert hF hS; apply regJ (J := J5 (α0 := Value) (α1 := Value) (α2 := PH) (α3 := Value) (α4 := PH) 170 _ _ _ _ _) #[false, false, false, false, false, false, false, false, false, false, false] 11 mixed rfl rfl
  ·intro w hF hS
   refine goW_take 0 _ rfl kQ rfl hF (hS.keep sQ (sQ.n.n.n)) (q_ld_blkW ty29 0 rfl rfl bQ rfl) ?_
   clear hF; intro a hF
   refine goW_take 2 _ rfl kQ rfl hF (hS.keep sQ (sQ.n.n.n)) (q_ld_blkW ty29 0 rfl rfl bQ rfl) ?_
   clear hF; intro a hF
   refine goW_fork [1, 3] kQ rfl ⟨?_, ?_, trivial⟩
   ·refine stepW_ef _ rfl rfl hF hS rfl (ef_qt (q_call fn14 rfl (fun w hS => own_ct _ _ _ _ _ w (sl_one' hn7) (Sl.mono (hS.le (.inr (by simp))) hs8) (Sl.mono (hS.le (.inr (by simp))) hb9)) (fun _ _ _ h => h))) ?_
    clear hF hS; rintro _ _ _ a w ⟨rfl, rfl, rfl⟩ hF hS
    refine ⟨⟨.inr (hS.keep sQ (sQ.n.n.n)), iQ, trivial⟩, ?_⟩
    refine gQ 3 rfl rfl hF hS rfl (ef_bsliceA ty22 ty3 rfl rfl oQ (by decide) rfl rfl) ?_
    clear hF hS; rintro v_18_3 _ _ a w ⟨rfl, rfl⟩ hF hS
    refine ⟨⟨.inr (hS.keep sQ (sQ.n.n.n.n)), iQ, trivial⟩, ?_⟩
    refine gQ 4 rfl rfl hF hS rfl (ef_call fn55 rfl (fun w hS => marked_ct _ _ _ _ _ _ _ (by first | with_reducible assumption | omega) w (sl_one' hn7) (Sl.mono (hS.le (.inr (by simp))) hs8) (Sl.mono (hS.le (.inr (by simp))) hb9) (own_slV (f := vi) (xs := [4]) (hS.own _ (List.mem_of_getElem? (i := 0) rfl)).1 (by decide) rfl (by decide)))) ?_
    clear hF hS; rintro v_18_4 _ _ a w ⟨_, _, rfl, rfl, ⟨z_18_4, hz_18_4, rfl, rfl⟩⟩ hF hS
    refine ⟨⟨iQ, iQ, trivial⟩, ?_⟩
    refine gQ 5 rfl rfl hF hS rfl (ef_call fn13 rfl (fun w hS => guilty_ct _ _ _ _ _ _ _ (by first | with_reducible assumption | omega) w (sl_one' hn7) (Sl.mono (hS.le (.inr (by simp))) hs8) (Sl.mono (hS.le (.inr (by simp))) hb9) (Sl.mono (hS.le (.inr (by simp))) hz_18_4))) ?_
    clear hF hS; rintro _ _ _ a w ⟨_, _, rfl, rfl, ⟨v_18_5_1, z_18_5, hz_18_5, rfl, rfl, rfl⟩⟩ hF hS
    refine ⟨⟨iQ, iQ, trivial⟩, ?_⟩
    refine goW_take 6 _ rfl kQ rfl hF (hS.keep sQ zQ) (q_move rfl) ?_
    clear hF; intro a hF
    refine goW_take 7 _ rfl kQ rfl hF (hS.keep sQ zQ) (q_extract rfl rfl) ?_
    clear hF; intro a hF
    refine goW_take 8 _ rfl kQ rfl hF (hS.keep sQ zQ) (q_extract rfl rfl) ?_
    clear hF; intro a hF
    refine goW_take 9 _ rfl kQ rfl hF (hS.keep sQ zQ) (q_assign rfl) ?_
    clear hF; intro a hF
    refine goW_take 10 _ rfl kQ rfl hF (hS.keep sQ zQ) (q_assign rfl) ?_
    clear hF; intro a hF
    exact goW_done kQ (j5_mk v_18_3 v_18_4 z_18_4 v_18_5_1 z_18_5 ((And.intro hz_18_4 (And.intro hz_18_5 trivial))) (hF.sub (L' := [(16, _), (17, _), (18, _), (19, _), (21, _)]) ⟨rfl, rfl, rfl, rfl, rfl, trivial⟩) hS)
   ·refine stepW_ef _ rfl rfl hF hS rfl (ef_bsliceA ty22 ty3 rfl rfl oQ (by decide) rfl rfl) ?_
    clear hF hS; rintro v_18_3 _ _ a w ⟨rfl, rfl⟩ hF hS
    refine ⟨⟨.inr (hS.keep sQ (sQ.n.n.n.n)), .inr (hS.keep sQ (sQ.n.n.n.n)), trivial⟩, ?_⟩
    refine gQ 1 rfl rfl hF hS rfl (ef_qt (q_call fn14 rfl (fun w hS => own_ct _ _ _ _ _ w (sl_one' hn7) (Sl.mono (hS.le (.inr (by simp))) hs8) (Sl.mono (hS.le (.inr (by simp))) hb9)) (fun _ _ _ h => h))) ?_
    clear hF hS; rintro _ _ _ a w ⟨rfl, rfl, rfl⟩ hF hS
    refine ⟨⟨.inr (hS.keep sQ (sQ.n.n.n.n)), iQ, trivial⟩, ?_⟩
    refine gQ 4 rfl rfl hF hS rfl (ef_call fn55 rfl (fun w hS => marked_ct _ _ _ _ _ _ _ (by first | with_reducible assumption | omega) w (sl_one' hn7) (Sl.mono (hS.le (.inr (by simp))) hs8) (Sl.mono (hS.le (.inr (by simp))) hb9) (own_slV (f := vi) (xs := [4]) (hS.own _ (List.mem_of_getElem? (i := 0) rfl)).1 (by decide) rfl (by decide)))) ?_
    clear hF hS; rintro v_18_4 _ _ a w ⟨_, _, rfl, rfl, ⟨z_18_4, hz_18_4, rfl, rfl⟩⟩ hF hS
    refine ⟨⟨iQ, iQ, trivial⟩, ?_⟩
    refine gQ 5 rfl rfl hF hS rfl (ef_call fn13 rfl (fun w hS => guilty_ct _ _ _ _ _ _ _ (by first | with_reducible assumption | omega) w (sl_one' hn7) (Sl.mono (hS.le (.inr (by simp))) hs8) (Sl.mono (hS.le (.inr (by simp))) hb9) (Sl.mono (hS.le (.inr (by simp))) hz_18_4))) ?_
    clear hF hS; rintro _ _ _ a w ⟨_, _, rfl, rfl, ⟨v_18_5_1, z_18_5, hz_18_5, rfl, rfl, rfl⟩⟩ hF hS
    refine ⟨⟨iQ, iQ, trivial⟩, ?_⟩
    refine goW_take 6 _ rfl kQ rfl hF (hS.keep sQ zQ) (q_move rfl) ?_
    clear hF; intro a hF
    refine goW_take 7 _ rfl kQ rfl hF (hS.keep sQ zQ) (q_extract rfl rfl) ?_
    clear hF; intro a hF
    refine goW_take 8 _ rfl kQ rfl hF (hS.keep sQ zQ) (q_extract rfl rfl) ?_
    clear hF; intro a hF
    refine goW_take 9 _ rfl kQ rfl hF (hS.keep sQ zQ) (q_assign rfl) ?_
    clear hF; intro a hF
    refine goW_take 10 _ rfl kQ rfl hF (hS.keep sQ zQ) (q_assign rfl) ?_
    clear hF; intro a hF
    exact goW_done kQ (j5_mk v_18_3 v_18_4 z_18_4 v_18_5_1 z_18_5 ((And.intro hz_18_4 (And.intro hz_18_5 trivial))) (hF.sub (L' := [(16, _), (17, _), (18, _), (19, _), (21, _)]) ⟨rfl, rfl, rfl, rfl, rfl, trivial⟩) hS)
  rintro a w ⟨v_18_3, v_18_4, z_18_4, v_18_5_1, z_18_5, ⟨hz_18_4, hz_18_5, -⟩, hF, hS⟩
  (try dsimp only at hF); (try dsimp only at hS)
  have h5 : (Gu.togs Gu.exX (Gu.exB true) (Gu.mkB Gu.exX [5] [(5 : Int)].length)).length = 1 := by rw [li4]; rfl
  refine hK20 _ _ ?_
  clear hK20
  refine wp_seq_k ?_; intro K21 hK21
  refine wp_seq_k ?_; intro K22 hK22
  refine regl ?_
  refine wpl_sq hF hS (sq rfl (q_move rfl) <|
    sq rfl (q_nf (q_nei rfl rfl) (li1)) <|
    sq rfl (q_move rfl) <|
    sq_go 146 rfl rfl rfl (q_move rfl) <|
    sq_go 146 rfl rfl rfl (q_nf (q_nei rfl rfl) (li2)) <|
    sq rfl (q_pick_f rfl rfl) <|
    sq rfl (q_move rfl) <|
    sq_go 150 rfl rfl rfl (q_move rfl) <|
    sq_go 150 rfl rfl rfl (q_nf (q_nei rfl rfl) (li3)) <|
    sq rfl (q_pick_f rfl rfl) <|
    sq rfl (q_move rfl) <|
    sq_go 154 rfl rfl rfl (q_move rfl) <|
    sq_go 154 rfl rfl rfl (q_len_sl ty43 hz_16_5 rfl) <|
    sq_go 154 rfl rfl rfl (q_nf (q_nei rfl rfl) (by rw [li4]; rfl)) <|
    sq rfl (q_pick_f rfl rfl) <|
    sq rfl (q_move rfl) <|
    sq_go 159 rfl rfl rfl (q_move rfl) <|
    sq_end) ?_
  clear hF hS; intro a w hF hS
  refine wpl_efg hF hS (wanted_go 159 rfl rfl) rfl (ef_bsliceA ty22 ty3 rfl rfl oQ (by decide) rfl rfl) ?_
  clear hF hS; rintro v79 _ _ a w ⟨rfl, rfl⟩ hF hS
  replace hS : St _ [_, _, _, _, _, _, _, _, _, _, _, _, _, _, _, _, _, _, _, _, _] [_, _, _, _, _, _] _ := hS
  refine wpl_sq hF hS (sq_go 159 rfl rfl rfl (q_dt (q_call fn18 rfl (fun w hS => samei_ct _ _ _ _ w (Sl.mono (hS.le (.inr (by simp))) hz_17_5) (own_slV (f := vi) (xs := [5]) (hS.own _ (List.mem_of_getElem? (i := 0) rfl)).1 (by decide) rfl (by decide))) (fun _ _ _ h => h)) (li5)) <|
    sq_go 159 rfl rfl rfl (q_not rfl) <|
    sq rfl (q_pick_f rfl rfl) <|
    sq_end) ?_
  clear hF hS; intro a w hF hS
  refine wpList_nil ?_
  refine hK22 _ _ ?_
  clear hK22
  refine wp_if hF rfl (fun h => absurd h (by simp)) (fun _ => ?_)
  refine wp_skip ?_
  refine hK21 _ _ ?_
  clear hK21
  refine wp_seq_k ?_; intro K23 hK23
  refine regl ?_
  refine wpl_sq hF hS (sq rfl (q_move rfl) <|
    sq rfl (q_idx_sl ty43 ty22 hz_16_5 rfl rfl (by omega)) <|
    sq rfl (q_ld_Sl ty22 hz_16_5 (.inr (by simp)) rfl rfl (by omega)) <|
    sq_end) ?_
  clear hF hS; intro a w hF hS
  refine wpl_ef hF hS rfl (ef_bsliceA ty22 ty3 rfl rfl oQ (by decide) rfl rfl) ?_
  clear hF hS; rintro v81 _ _ a w ⟨rfl, rfl⟩ hF hS
  replace hS : St _ [_, _, _, _, _, _, _, _, _, _, _, _, _, _, _, _, _, _, _, _, _] [_, _, _, _, _, _, _] _ := hS
  refine wpl_sq hF hS (sq rfl (q_dt (q_call fn18 rfl (fun w hS => samei_ct _ _ _ _ w (Sl.mono (hS.le (.inr (by simp))) (elemV_sl hz_16_5 (by omega))) (own_slV (f := vi) (xs := [5, 1, 4]) (hS.own _ (List.mem_of_getElem? (i := 0) rfl)).1 (by decide) rfl (by decide))) (fun _ _ _ h => h)) (by rw [li4]; rfl)) <|
    sq rfl (q_assign rfl) <|
    sq_end) ?_
  clear hF hS; intro a w hF hS
  refine wpList_nil ?_
  refine hK23 _ _ ?_
  clear hK23
  refine wp_ret ?_
  exact fn_ret (rs := [.tmp 0]) rfl hF hS (vs := [_]) ⟨rfl, trivial⟩ zQ zQ (rfl)
end Go.Proofs.Ytcbjemjohacbpaa
