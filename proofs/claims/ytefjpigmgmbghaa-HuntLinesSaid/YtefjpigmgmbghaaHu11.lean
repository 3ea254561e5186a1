/- A text of a proof over this seat: walks over the program's functions and the plain laws that they need. -/
import Derived.Test.YtefjpigmgmbghaaHu10
import Derived.Test.YtefjpigmgmbghaaHpA
import Derived.Test.YtefjpigmgmbghaaFwD
import Derived.Test.YtefjpigmgmbghaaGuA
import Derived.Test.YtefjpigmgmbghaaFwB
set_option linter.all false
namespace Go.Proofs.Ytefjpigmgmbghaa
open Go.Fw
theorem fn21 : FnOk Try.prog 21 := ⟨_, Try.func21, rfl, by kernel_rfl⟩
theorem fn45 : FnOk Try.prog 45 := ⟨_, Try.func45, rfl, by kernel_rfl⟩
theorem fn57 : FnOk Try.prog 57 := ⟨_, Try.func57, rfl, by kernel_rfl⟩

set_option maxRecDepth 4000 in
set_option maxHeartbeats 2000000 in
theorem keys_ct (xN xS xB : Value) (xs : List Int) (xb : List Bool) (v : Value) (m : List Int) (hl : xs.length < 1048576) (w : World) (hxn : xN.oneCell' = true) (hxs : Sl encI (ph w) xS xs) (hxb : Sl encT (ph w) xB xb) (hm : Sl encI (ph w) v m) : Ct Try.prog 11 [.agg [xN, xS, xB].toArray, v] w (SlR (encA 16) (Hu.kyl m xs.length)) := by
 refine fn_enter Try.func11 rfl Try.ntmps11 (Nat.le_of_ble_eq_true rfl) fun a hF hS => ?_
 have hsl := hxs.1
 have hml := hm.1
 refine wp_seq_k ?_; intro K1 hK1
 refine regl ?_
 refine wpl_ef hF hS rfl (ef_boxA rfl) ?_
 clear hF hS; rintro _ _ _ a w ⟨b1, rfl, rfl, rfl⟩ hF hS
 refine wpl_sq hF hS (sq rfl (q_assign rfl) <|
   sq_end) ?_
 clear hF hS; intro a w hF hS
 refine wpList_nil ?_
 refine hK1 _ _ ?_
 clear hK1
 refine wp_seq_k ?_; intro K2 hK2
 refine reg hF hS (sq rfl (q_assign rfl) <|
   sq_end) ?_
 clear hF hS; intro a w hF hS
 replace hS := hS.nilRow 66 16
 refine hK2 _ _ ?_
 clear hK2
 refine wp_seq_k ?_; intro K3 hK3
 refine wp_seq_k ?_; intro K4 hK4
 refine reg hF hS (sq rfl (q_assign rfl) <|
   sq_end) ?_
 clear hF hS; intro a w hF hS
 refine hK4 _ _ ?_
 clear hK4
 refine wp_block ?_
 obtain ⟨hs0, hhs0, hS⟩ : ∃ h, h = _ ∧ St _ _ h _ := ⟨_, rfl, hS⟩
 refine wp_loopx (γ := Value × Int) ((Value.slice none 0 0), 0) (fun (gg : Value × Int) => match gg with | (u, i) => [(5, u), (6, vi i)]) [(1, _), (2, _)] (fun (gg : Value × Int) => match gg with | (u, i) => (hs0.set 0 (.row u 66 16 i.toNat ((Hu.kyl m i.toNat).flatten.map vb)))) (fun (gg : Value × Int) => match gg with | (u, i) => 0 ≤ i ∧ i ≤ xs.length) (fun (gg : Value × Int) => match gg with | (u, i) => (xs.length - i).toNat) (hF.sub ⟨rfl, rfl, rfl, rfl, trivial⟩) (by subst hhs0; exact hS) (by exact ⟨Int.le_refl _, by omega⟩) ?_
 clear hF hS; rintro ⟨u, i⟩ a w hfact hF hS
 subst hhs0; (try dsimp only at hfact); (try dsimp only at hF); (try dsimp only at hS)
 obtain ⟨hi0, hi1⟩ := hfact
 replace hS : St _ [] [_, _] _ := hS
 have hk16y := Hu.kyl_16 m i.toNat
 have hat := Gu.atN_range (l := m) (i := i) (m := 16) (by decide)
 have hdg := Hu.dgI_16 i
 refine wp_seq_k ?_; intro K5 hK5
 refine wp_seq_k ?_; intro K6 hK6
 refine reg hF hS (sq rfl (q_move rfl) <|
   sq rfl (q_fieldAddr ty26 rfl rfl (s' := 0) kQ) <|
   sq rfl (q_ld_blk1 ty22 1 rfl rfl rfl rfl) <|
   sq rfl (q_len_sl ty22 hxs rfl) <|
   sq rfl (q_lti rfl rfl) <|
   sq_end) ?_
 clear hF hS; intro a w hF hS
 refine hK6 _ _ ?_
 clear hK6
 refine wp_ifd hF rfl (fun hc1 => ?_) (fun hc1 => ?_)
 ·refine wp_skip ?_
  refine hK5 _ _ ?_
  clear hK5
  refine wp_seq_k ?_; intro K7 hK7
  refine wp_block ?_
  refine wp_seq_k ?_; intro K8 hK8
  refine regl ?_
  refine wpl_sq hF hS (sq rfl (q_move rfl) <|
    sq rfl (q_addi rfl rfl (by omega)) <|
    sq rfl (q_cv_ib ty3 ty5 rfl) <|
    sq rfl (q_build rfl (run_build_arr ty66 ty5 (cells := (Hu.dgI i).map vb) rfl)) <|
    sq_end) ?_
  clear hF hS; intro a w hF hS
  refine wpl_ef hF hS rfl (ef_allocA ty66) ?_
  clear hF hS; rintro _ _ _ a w ⟨b3, rfl, rfl, rfl⟩ hF hS
  rw [show List.replicate 16 (Value.int .u8 0) = (List.replicate 16 (0 : UInt8)).map vb from by rw [List.map_replicate]; rfl] at hS
  refine wpl_ef hF hS rfl (ef_storeW ty66 0 rfl rfl rfl rfl bQ oQ bQ) ?_
  clear hF hS; rintro _ _ _ a w ⟨rfl, rfl, rfl⟩ hF hS
  replace hS : St _ [] [_, _, _] _ := hS
  refine wpList_nil ?_
  refine hK8 _ _ ?_
  clear hK8
  refine wp_seq_k ?_; intro K9 hK9
  refine reg hF hS (sq rfl (q_move rfl) <|
    sq rfl (q_move rfl) <|
    sq rfl (q_call fn21 rfl (fun w hS => at_ct _ _ _ _ (by omega) w (Sl.mono (hS.le zin0) hm)) (fun _ _ _ h => h)) <|
    sq rfl (q_assign rfl) <|
    sq_end) ?_
  clear hF hS; intro a w hF hS
  refine hK9 _ _ ?_
  clear hK9
  obtain ⟨hs0, hhs0, hS⟩ : ∃ h, h = _ ∧ St _ _ h _ := ⟨_, rfl, hS⟩
  refine wp_cutx (γ := List UInt8) (fun (d : List UInt8) => []) [(1, _), (2, _), (5, _), (6, _), (7, _)] (fun (d : List UInt8) => (hs0.set 0 (.blk b3 66 (d.map vb)))) (fun (d : List UInt8) => Hu.kyl m (i + 1).toNat = Hu.kyl m i.toNat ++ [d] ∧ d.length = 16) (hF.sub ⟨rfl, rfl, rfl, rfl, rfl, trivial⟩) hS ?_ ?_
  ·subst hhs0
   refine wp_seq_k ?_; intro K10 hK10
   refine regl ?_
   refine wpl_sq hF hS (sq rfl (q_move rfl) <|
     sq rfl (q_move rfl) <|
     sq rfl (q_lti rfl rfl) <|
     sq rfl (q_move rfl) <|
     sq_end) ?_
   clear hF hS; intro a w hF hS
   refine wpl_and 3 26 2 hF hS rfl rfl rfl rfl rfl (fun hg => have hg := (by first | exact of_decide_eq_true hg | exact hg); sq_go 26 rfl rfl rfl (q_move rfl) <|
     sq_go 26 rfl rfl rfl (q_lti rfl rfl) <|
     sq_end) rfl rfl ?_
   clear hF hS; intro a w hF hS
   refine wpList_nil ?_
   refine hK10 _ _ ?_
   clear hK10
   refine wp_if hF rfl (fun hc2 => ?_) (fun hc2 => ?_)
   ·(try simp only [Bool.or_eq_true, Bool.and_eq_true, Bool.or_eq_false_iff, Bool.and_eq_false_iff, decide_eq_true_eq, decide_eq_false_iff_not, Bool.not_eq_true', Bool.not_eq_false'] at hc2)
    have hg16 : ((Hu.kyl m i.toNat).getD (Gu.atN m i 16).toNat []).length = 16 := hk16y _ (by rw [List.getD_eq_getElem?_getD, List.getElem?_eq_getElem (by rw [Hu.kyl_len]; omega)]; exact List.getElem_mem _)
    refine regl ?_
    refine wpl_sq hF hS (sq rfl (q_move rfl) <|
      sq rfl (q_move rfl) <|
      sq rfl (q_idx_row ty28 ty66 1 rfl rfl rfl (by omega)) <|
      sq rfl (q_ld_rowA ty66 1 rfl hk16y rfl (by rw [Hu.kyl_len]; omega) (by decide) rfl) <|
      sq_end) ?_
    clear hF hS; intro a w hF hS
    refine wpl_ef hF hS rfl (ef_storeW ty66 0 rfl rfl rfl rfl bQ oQ bQ) ?_
    clear hF hS; rintro _ _ _ a w ⟨rfl, rfl, rfl⟩ hF hS
    replace hS : St _ [] [_, _, _] _ := hS
    refine wpList_nil ?_
    refine ⟨(((Hu.kyl m i.toNat).getD (Gu.atN m i 16).toNat [])), ?_, hF.sub ⟨rfl, rfl, rfl, rfl, rfl, trivial⟩, ?_⟩
    ·exact ⟨Hu.kyl_t hi0 hc2, hk16y _ (by rw [List.getD_eq_getElem?_getD, List.getElem?_eq_getElem (by rw [Hu.kyl_len]; omega)]; exact List.getElem_mem _)⟩
    ·exact hS
   ·(try simp only [Bool.or_eq_true, Bool.and_eq_true, Bool.or_eq_false_iff, Bool.and_eq_false_iff, decide_eq_true_eq, decide_eq_false_iff_not, Bool.not_eq_true', Bool.not_eq_false'] at hc2)
    refine wp_skip ?_
    refine ⟨((Hu.dgI i)), ?_, hF.sub ⟨rfl, rfl, rfl, rfl, rfl, trivial⟩, ?_⟩
    ·exact ⟨Hu.kyl_f hi0 (by omega), Hu.dgI_16 i⟩
    ·exact hS
  clear hF hS; rintro d a w hfact hF hS
  subst hhs0; (try dsimp only at hfact); (try dsimp only at hF); (try dsimp only at hS)
  obtain ⟨hd9, hd16⟩ := hfact
  replace hS : St _ [] [_, _, _] _ := hS
  refine regl ?_
  refine wpl_sq hF hS (sq rfl (q_move rfl) <|
    sq rfl (q_ld_blkW ty66 0 rfl rfl bQ rfl) <|
    sq_end) ?_
  clear hF hS; intro a w hF hS
  refine wpl_ef hF hS rfl (ef_bsliceW ty28 ty66 rfl bQ (by decide) oQ (by decide) (by decide)) ?_
  clear hF hS; rintro v4 _ _ a w ⟨rfl, rfl⟩ hF hS
  replace hS : St _ [] [_, _, _, _] _ := hS
  refine wpl_ef hF hS rfl (ef_append ty28 ty66 2 rfl rfl rfl (src_row ty28 (k := 0) rfl oQ) bQ rfl (by decide)) ?_
  clear hF hS; rintro v6 _ _ a w ⟨rfl, rfl⟩ hF hS
  replace hS : St _ [] [_, _, _, _] _ := hS
  refine wpl_sq hF hS (sq rfl (q_assign rfl) <|
    sq_end) ?_
  clear hF hS; intro a w hF hS
  refine wpList_nil ?_
  refine hK7 _ _ ?_
  clear hK7
  refine reg hF hS (sq rfl (q_move rfl) <|
    sq rfl (q_addi rfl rfl (by omega)) <|
    sq rfl (q_assign rfl) <|
    sq_end) ?_
  clear hF hS; intro a w hF hS
  replace hS := hS.keep zQ (sQ.n.n)
  refine ⟨(v6, i + 1), ?_, ?_, hF.sub ⟨rfl, rfl, rfl, rfl, trivial⟩, ?_⟩
  ·(try dsimp only); omega
  ·(try dsimp only); omega
  ·exact hS.rowEq (by omega) (by rw [hd9, List.flatten_append, List.map_append]; simp)
 ·obtain rfl : i = xs.length := by omega
  rw [Int.toNat_natCast] at hS
  refine wp_exit ?_
  refine hK3 _ _ ?_
  clear hK3
  refine wp_seq_k ?_; intro K11 hK11
  refine reg hF hS (sq rfl (q_move rfl) <|
    sq rfl (q_assign rfl) <|
    sq_end) ?_
  clear hF hS; intro a w hF hS
  refine hK11 _ _ ?_
  clear hK11
  refine wp_ret ?_
  obtain ⟨zr, hzr, hS⟩ := hS.freezeA (m := 16) (Hu.kyl_len m xs.length).symm (by omega) (Hu.kyl_16 m _)
  exact fn_ret (rs := [.tmp 4]) rfl hF hS (vs := [_]) ⟨rfl, trivial⟩ (zs' := [zr]) (hs' := []) (List.singleton_sublist.2 (by simp)) zQ ⟨zr, hzr, rfl, rfl⟩

set_option maxRecDepth 4000 in
set_option maxHeartbeats 2000000 in
theorem truth_ct (kV : Value) (ks : List (List UInt8)) (v : Value) (l : List Int) (hl : ks.length < 1048576) (w : World) (hk : Sl (encA 16) (ph w) kV ks) (hm : Sl encI (ph w) v l) : Ct Try.prog 13 [kV, v] w (SlR encT (Hu.tru l ks ks.length)) := by
 refine fn_enter Try.func13 rfl Try.ntmps13 (Nat.le_of_ble_eq_true rfl) fun a hF hS => ?_
 have hkl := hk.1
 have hml := hm.1
 have hk16 : ∀ j, j < ks.length → (ks.getD j []).length = 16 := fun j hj => by have := hk.rep (i := j) (x := ks[j]) (by simp [hj]); rw [List.getD_eq_getElem?_getD, List.getElem?_eq_getElem hj]; exact this.1
 refine wp_seq_k ?_; intro K1 hK1
 refine reg hF hS (sq rfl (q_assign rfl) <|
   sq_end) ?_
 clear hF hS; intro a w hF hS
 refine hK1 _ _ ?_
 clear hK1
 refine wp_seq_k ?_; intro K2 hK2
 refine reg hF hS (sq rfl (q_assign rfl) <|
   sq_end) ?_
 clear hF hS; intro a w hF hS
 replace hS := hS.nilRow 4 1
 refine hK2 _ _ ?_
 clear hK2
 refine wp_seq_k ?_; intro K3 hK3
 refine wp_seq_k ?_; intro K4 hK4
 refine reg hF hS (sq rfl (q_assign rfl) <|
   sq_end) ?_
 clear hF hS; intro a w hF hS
 refine hK4 _ _ ?_
 clear hK4
 refine wp_block ?_
 obtain ⟨hs0, hhs0, hS⟩ : ∃ h, h = _ ∧ St _ _ h _ := ⟨_, rfl, hS⟩
 refine wp_loopx (γ := Value × Int) ((Value.slice none 0 0), 0) (fun (gg : Value × Int) => match gg with | (u, i) => [(5, u), (6, vi i)]) [(0, _), (1, _)] (fun (gg : Value × Int) => match gg with | (u, i) => (hs0.set 0 (.row u 4 1 i.toNat ((Hu.tru l ks i.toNat).map vt)))) (fun (gg : Value × Int) => match gg with | (u, i) => 0 ≤ i ∧ i ≤ ks.length) (fun (gg : Value × Int) => match gg with | (u, i) => (ks.length - i).toNat) (hF.sub ⟨rfl, rfl, rfl, rfl, trivial⟩) (by subst hhs0; exact hS) (by exact ⟨Int.le_refl _, by omega⟩) ?_
 clear hF hS; rintro ⟨u, i⟩ a w hfact hF hS
 subst hhs0; (try dsimp only at hfact); (try dsimp only at hF); (try dsimp only at hS)
 obtain ⟨hi0, hi1⟩ := hfact
 replace hS : St _ [] [_] _ := hS
 refine wp_seq_k ?_; intro K5 hK5
 refine wp_seq_k ?_; intro K6 hK6
 refine reg hF hS (sq rfl (q_move rfl) <|
   sq rfl (q_move rfl) <|
   sq rfl (q_len_sl ty28 hk rfl) <|
   sq rfl (q_lti rfl rfl) <|
   sq_end) ?_
 clear hF hS; intro a w hF hS
 refine hK6 _ _ ?_
 clear hK6
 refine wp_ifd hF rfl (fun hc1 => ?_) (fun hc1 => ?_)
 ·have hki := hk16 i.toNat (by omega)
  refine wp_skip ?_
  refine hK5 _ _ ?_
  clear hK5
  refine wp_seq_k ?_; intro K7 hK7
  refine wp_block ?_
  refine regl ?_
  refine wpl_sq hF hS (sq rfl (q_move rfl) <|
    sq rfl (q_move rfl) <|
    sq rfl (q_move rfl) <|
    sq rfl (q_move rfl) <|
    sq rfl (q_idx_sl ty28 ty66 hk rfl rfl (by omega)) <|
    sq rfl (q_idx_AB ty66 ty5 hk rfl rfl (by omega) (by omega)) <|
    sq rfl (q_ld_AB1 ty5 hk zin0 rfl rfl (by omega) (by omega)) <|
    sq rfl (q_cv_bi ty5 ty3 rfl) <|
    sq rfl (q_call fn21 rfl (fun w hS => at_ct _ _ _ _ (by omega) w (Sl.mono (hS.le zin0) hm)) (fun _ _ _ h => h)) <|
    sq rfl (q_eqi rfl rfl) <|
    sq_end) ?_
  clear hF hS; intro a w hF hS
  refine wpl_ef hF hS rfl (ef_bsliceA ty24 ty4 rfl rfl oQ (by decide) rfl rfl) ?_
  clear hF hS; rintro v2 _ _ a w ⟨rfl, rfl⟩ hF hS
  replace hS : St _ [] [_, _] _ := hS
  refine wpl_ef hF hS rfl (ef_append ty24 ty4 1 rfl rfl rfl (src_row ty24 (k := 0) rfl oQ) bQ rfl (by decide)) ?_
  clear hF hS; rintro v4 _ _ a w ⟨rfl, rfl⟩ hF hS
  replace hS : St _ [] [_, _] _ := hS
  refine wpl_sq hF hS (sq rfl (q_assign rfl) <|
    sq_end) ?_
  clear hF hS; intro a w hF hS
  refine wpList_nil ?_
  refine hK7 _ _ ?_
  clear hK7
  refine reg hF hS (sq rfl (q_move rfl) <|
    sq rfl (q_addi rfl rfl (by omega)) <|
    sq rfl (q_assign rfl) <|
    sq_end) ?_
  clear hF hS; intro a w hF hS
  replace hS := hS.keep zQ (sQ.n)
  refine ⟨(v4, i + 1), ?_, ?_, hF.sub ⟨rfl, rfl, rfl, rfl, trivial⟩, ?_⟩
  ·(try dsimp only); omega
  ·(try dsimp only); omega
  ·exact hS.rowEq (by omega) (by rw [show (i + 1).toNat = i.toNat + 1 by omega, Hu.tru_succ, List.map_append]; rfl)
 ·obtain rfl : i = ks.length := by omega
  rw [Int.toNat_natCast] at hS
  replace hS := hS.rowEq (Hu.tru_len l ks ks.length).symm rfl
  have hml9 := Hu.tru_len l ks ks.length
  refine wp_exit ?_
  refine hK3 _ _ ?_
  clear hK3
  refine wp_seq_k ?_; intro K8 hK8
  refine reg hF hS (sq rfl (q_move rfl) <|
    sq rfl (q_assign rfl) <|
    sq_end) ?_
  clear hF hS; intro a w hF hS
  refine hK8 _ _ ?_
  clear hK8
  refine wp_ret ?_
  obtain ⟨zr, hzr, hS⟩ := St.freezeV (f := vt) (p := fun _ => True) hS rfl (by first | omega | (simp; omega)) (fun _ _ => trivial)
  exact fn_ret (rs := [.tmp 4]) rfl hF hS (vs := [_]) ⟨rfl, trivial⟩ (zs' := [_]) (hs' := []) (List.singleton_sublist.2 (by simp)) zQ (sr_of ⟨_, hzr, rfl, rfl⟩ (rfl))

set_option maxRecDepth 4000 in
set_option maxHeartbeats 2000000 in
theorem rfits_ct (xN xS xB : Value) (xs : List Int) (xb : List Bool) (kV mV : Value) (ks : List (List UInt8)) (ms : List Int) (w : World) (hxn : xN.oneCell' = true) (hxs : Sl encI (ph w) xS xs) (hxb : Sl encT (ph w) xB xb) (hk : Sl (encA 16) (ph w) kV ks) (hm : Sl encI (ph w) mV ms) : Ct Try.prog 57 [.agg [xN, xS, xB].toArray, .agg [kV, mV].toArray] w (fun r _ _ => r = .bool (Hu.fitB xs xb ks ms)) := by
 refine fn_enter Try.func57 rfl Try.ntmps57 (Nat.le_of_ble_eq_true rfl) fun a hF hS => ?_
 have hsl := hxs.1
 have htl := hxb.1
 have hkl := hk.1
 have hml := hm.1
 have hk16 : ∀ j, j < ks.length → (ks.getD j []).length = 16 := fun j hj => by have := hk.rep (i := j) (x := ks[j]) (by simp [hj]); rw [List.getD_eq_getElem?_getD, List.getElem?_eq_getElem hj]; exact this.1
 refine wp_seq_k ?_; intro K1 hK1
 refine regl ?_
 refine wpl_ef hF hS rfl (ef_boxA rfl) ?_
 clear hF hS; rintro _ _ _ a w ⟨b1, rfl, rfl, rfl⟩ hF hS
 refine wpl_ef hF hS rfl (ef_boxA rfl) ?_
 clear hF hS; rintro _ _ _ a w ⟨b2, rfl, rfl, rfl⟩ hF hS
 refine wpl_sq hF hS (sq rfl (q_assign rfl) <|
   sq_end) ?_
 clear hF hS; intro a w hF hS
 refine wpList_nil ?_
 refine hK1 _ _ ?_
 clear hK1
 refine wp_seq_k ?_; intro K2 hK2
 refine reg hF hS (sq rfl (q_fieldAddr ty26 rfl rfl (s' := 0) kQ) <|
   sq rfl (q_ld_blk1 ty22 1 rfl rfl rfl rfl) <|
   sq rfl (q_len_sl ty22 hxs rfl) <|
   sq rfl (q_assign rfl) <|
   sq_end) ?_
 clear hF hS; intro a w hF hS
 refine hK2 _ _ ?_
 clear hK2
 refine wp_seq_k ?_; intro K3 hK3
 refine wp_seq_k ?_; intro K4 hK4
 refine regl ?_
 refine wpl_sq hF hS (sq rfl (q_ld_blkW ty26 1 rfl rfl bQ rfl) <|
   sq rfl (q_call fn52 rfl (fun w hS => rordered_ct _ _ _ _ _ w hxn (Sl.mono (hS.le zin0) hxs) (Sl.mono (hS.le zin0) hxb)) (fun _ _ _ h => h)) <|
   sq rfl (q_not rfl) <|
   sq rfl (q_move rfl) <|
   sq_end) ?_
 clear hF hS; intro a w hF hS
 refine wpl_or 3 14 5 hF hS rfl rfl rfl rfl rfl (fun hg => have hg := hg; sq_go 14 rfl rfl rfl (q_fieldAddr ty31 rfl rfl (s' := 0) kQ) <|
   sq_go 14 rfl rfl rfl (q_ld_blk1 ty28 0 rfl rfl rfl rfl) <|
   sq_go 14 rfl rfl rfl (q_len_sl ty28 hk rfl) <|
   sq_go 14 rfl rfl rfl (q_move rfl) <|
   sq_go 14 rfl rfl rfl (q_nei rfl rfl) <|
   sq_end) rfl rfl ?_
 clear hF hS; intro a w hF hS
 refine wpl_sq hF hS (sq rfl (q_move rfl) <|
   sq_end) ?_
 clear hF hS; intro a w hF hS
 refine wpl_or 10 21 5 hF hS rfl rfl rfl rfl rfl (fun hg => have hg := hg; sq_go 21 rfl rfl rfl (q_fieldAddr ty31 rfl rfl (s' := 0) kQ) <|
   sq_go 21 rfl rfl rfl (q_ld_blk1 ty22 0 rfl rfl rfl rfl) <|
   sq_go 21 rfl rfl rfl (q_len_sl ty22 hm rfl) <|
   sq_go 21 rfl rfl rfl (q_move rfl) <|
   sq_go 21 rfl rfl rfl (q_nei rfl rfl) <|
   sq_end) rfl rfl ?_
 clear hF hS; intro a w hF hS
 refine wpList_nil ?_
 refine hK4 _ _ ?_
 clear hK4
 refine wp_if hF rfl (fun hc1 => ?_) (fun hc1 => ?_)
 ·(try simp only [Bool.or_eq_true, Bool.and_eq_true, Bool.or_eq_false_iff, Bool.and_eq_false_iff, decide_eq_true_eq, decide_eq_false_iff_not, Bool.not_eq_true', Bool.not_eq_false'] at hc1)
  refine wp_seq_k ?_; intro K5 hK5
  refine reg hF hS (sq rfl (q_assign rfl) <|
    sq_end) ?_
  clear hF hS; intro a w hF hS
  refine hK5 _ _ ?_
  clear hK5
  refine wp_ret ?_
  exact fn_ret (rs := [.tmp 4]) rfl hF hS (vs := [_]) ⟨rfl, trivial⟩ zQ zQ (by rw [Hu.fit_len (Hu.lenB_no hc1)])
 ·(try simp only [Bool.or_eq_true, Bool.and_eq_true, Bool.or_eq_false_iff, Bool.and_eq_false_iff, decide_eq_true_eq, decide_eq_false_iff_not, Bool.not_eq_true', Bool.not_eq_false'] at hc1)
  have hln := Hu.lenB_ok hc1
  have hxl := Hu.ordB_len hc1.1.1
  refine wp_skip ?_
  refine hK3 _ _ ?_
  clear hK3
  refine wp_seq_k ?_; intro K6 hK6
  refine wp_seq_k ?_; intro K7 hK7
  refine reg hF hS (sq rfl (q_assign rfl) <|
    sq_end) ?_
  clear hF hS; intro a w hF hS
  refine hK7 _ _ ?_
  clear hK7
  refine wp_block ?_
  obtain ⟨hs0, hhs0, hS⟩ : ∃ h, h = _ ∧ St _ _ h _ := ⟨_, rfl, hS⟩
  refine wp_loopx (γ := Int) (0) (fun (i : Int) => [(6, vi i)]) [(2, _), (3, _), (5, _)] (fun (i : Int) => hs0) (fun (i : Int) => 0 ≤ i ∧ i ≤ xs.length ∧ ∀ j, j < i.toNat → Hu.fitI xb ks ms j = true) (fun (i : Int) => (xs.length - i).toNat) (hF.sub ⟨rfl, rfl, rfl, rfl, trivial⟩) (by subst hhs0; exact hS) (by exact ⟨Int.le_refl _, by omega, fun j hj => absurd hj (by simp)⟩) ?_
  clear hF hS; rintro i a w hfact hF hS
  subst hhs0; (try dsimp only at hfact); (try dsimp only at hF); (try dsimp only at hS)
  obtain ⟨hi0, hi1, hno⟩ := hfact
  replace hS : St _ [] [_, _] _ := hS
  refine wp_seq_k ?_; intro K8 hK8
  refine wp_seq_k ?_; intro K9 hK9
  refine reg hF hS (sq rfl (q_move rfl) <|
    sq rfl (q_move rfl) <|
    sq rfl (q_lti rfl rfl) <|
    sq_end) ?_
  clear hF hS; intro a w hF hS
  refine hK9 _ _ ?_
  clear hK9
  refine wp_ifd hF rfl (fun hc2 => ?_) (fun hc2 => ?_)
  ·have hki := hk16 i.toNat (by omega)
   refine wp_skip ?_
   refine hK8 _ _ ?_
   clear hK8
   refine wp_seq_k ?_; intro K10 hK10
   refine wp_block ?_
   refine wp_seq_k ?_; intro K11 hK11
   refine wp_seq_k ?_; intro K12 hK12
   refine regl ?_
   refine wpl_sq hF hS (sq rfl (q_fieldAddr ty31 rfl rfl (s' := 0) kQ) <|
     sq rfl (q_ld_blk1 ty22 0 rfl rfl rfl rfl) <|
     sq rfl (q_move rfl) <|
     sq rfl (q_idx_sl ty22 ty3 hm rfl rfl (by omega)) <|
     sq rfl (q_ld_I ty3 hm zin0 rfl rfl (by omega)) <|
     sq rfl (q_lti rfl rfl) <|
     sq rfl (q_move rfl) <|
     sq_end) ?_
   clear hF hS; intro a w hF hS
   refine wpl_or 6 39 6 hF hS rfl rfl rfl rfl rfl (fun hg => have hg := (by first | exact of_decide_eq_false hg | exact hg); sq_go 39 rfl rfl rfl (q_fieldAddr ty31 rfl rfl (s' := 0) kQ) <|
     sq_go 39 rfl rfl rfl (q_ld_blk1 ty22 0 rfl rfl rfl rfl) <|
     sq_go 39 rfl rfl rfl (q_move rfl) <|
     sq_go 39 rfl rfl rfl (q_idx_sl ty22 ty3 hm rfl rfl (by omega)) <|
     sq_go 39 rfl rfl rfl (q_ld_I ty3 hm zin0 rfl rfl (by omega)) <|
     sq_go 39 rfl rfl rfl (q_gti rfl rfl) <|
     sq_end) rfl rfl ?_
   clear hF hS; intro a w hF hS
   refine wpl_sq hF hS (sq rfl (q_move rfl) <|
     sq_end) ?_
   clear hF hS; intro a w hF hS
   refine wpl_orG (q := (!(xb.getD i.toNat false) && !decide ((ms.getD i.toNat 0) = 0))) 47 14 hF hS rfl (by rfl) rfl (fun _ => sq_skip 47 rfl rfl rfl rfl <|
     sq_skip 47 rfl rfl rfl rfl <|
     sq_skip 47 rfl rfl rfl rfl <|
     sq_skip 47 rfl rfl rfl rfl <|
     sq_skip 47 rfl rfl rfl rfl <|
     sq_skip 47 rfl rfl rfl rfl <|
     sq_skip 47 rfl rfl rfl rfl <|
     sq_skipu 54 rfl rfl rfl <|
     sq_skipu 54 rfl rfl rfl <|
     sq_skipu 54 rfl rfl rfl <|
     sq_skipu 54 rfl rfl rfl <|
     sq_skipu 54 rfl rfl rfl <|
     sq_skipu 54 rfl rfl rfl <|
     sq_skip 47 rfl rfl rfl rfl <|
     sq_end) rfl (fun hg a w hF hS KG => ?_) ?_
   ·have hg := hg
    refine wpl_sq hF hS (sq_go 47 rfl rfl rfl (q_fieldAddr ty26 rfl rfl (s' := 0) kQ) <|
      sq_go 47 rfl rfl rfl (q_ld_blk1 ty24 1 rfl rfl rfl rfl) <|
      sq_go 47 rfl rfl rfl (q_move rfl) <|
      sq_go 47 rfl rfl rfl (q_idx_sl ty24 ty4 hxb rfl rfl (by omega)) <|
      sq_go 47 rfl rfl rfl (q_ld_T ty4 hxb zin0 rfl rfl (by omega)) <|
      sq_go 47 rfl rfl rfl (q_not rfl) <|
      sq_go 47 rfl rfl rfl (q_move rfl) <|
      sq_end) ?_
    clear hF hS; intro a w hF hS
    refine wpl_andP 21 54 6 14 47 hF hS rfl rfl rfl rfl rfl rfl rfl (fun hg2 => have hg2 := hg2; sq_go 54 rfl rfl rfl (q_fieldAddr ty31 rfl rfl (s' := 0) kQ) <|
      sq_go 54 rfl rfl rfl (q_ld_blk1 ty22 0 rfl rfl rfl rfl) <|
      sq_go 54 rfl rfl rfl (q_move rfl) <|
      sq_go 54 rfl rfl rfl (q_idx_sl ty22 ty3 hm rfl rfl (by omega)) <|
      sq_go 54 rfl rfl rfl (q_ld_I ty3 hm zin0 rfl rfl (by omega)) <|
      sq_go 54 rfl rfl rfl (q_nei rfl rfl) <|
      sq_end) rfl rfl ?_
    clear hF hS; intro a w hF hS
    refine wpl_sq hF hS (sq rfl (q_pick_f rfl rfl) <|
      sq_end) ?_
    clear hF hS; intro a w hF hS
    exact KG _ _ (hF.under 8 rfl rfl) hS
   clear hF hS; intro a w hF hS
   refine wpList_nil ?_
   refine hK12 _ _ ?_
   clear hK12
   refine wp_if hF rfl (fun hc3 => ?_) (fun hc3 => ?_)
   ·(try simp only [Bool.or_eq_true, Bool.and_eq_true, Bool.or_eq_false_iff, Bool.and_eq_false_iff, decide_eq_true_eq, decide_eq_false_iff_not, Bool.not_eq_true', Bool.not_eq_false'] at hc3)
    refine wp_seq_k ?_; intro K13 hK13
    refine reg hF hS (sq rfl (q_assign rfl) <|
      sq_end) ?_
    clear hF hS; intro a w hF hS
    refine hK13 _ _ ?_
    clear hK13
    refine wp_ret ?_
    exact fn_ret (rs := [.tmp 4]) rfl hF hS (vs := [_]) ⟨rfl, trivial⟩ zQ zQ (by rw [Hu.fit_rg (i := i.toNat) (by omega) (by simpa using hc3)])
   ·(try simp only [Bool.or_eq_true, Bool.and_eq_true, Bool.or_eq_false_iff, Bool.and_eq_false_iff, decide_eq_true_eq, decide_eq_false_iff_not, Bool.not_eq_true', Bool.not_eq_false'] at hc3)
    refine wp_skip ?_
    refine hK11 _ _ ?_
    clear hK11
    refine wp_seq_k ?_; intro K14 hK14
    refine reg hF hS (sq rfl (q_assign rfl) <|
      sq_end) ?_
    clear hF hS; intro a w hF hS
    refine hK14 _ _ ?_
    clear hK14
    refine wp_block ?_
    obtain ⟨hs0, hhs0, hS⟩ : ∃ h, h = _ ∧ St _ _ h _ := ⟨_, rfl, hS⟩
    refine wp_loopx (γ := Int) (0) (fun (k : Int) => [(7, vi k)]) [(2, _), (3, _), (5, _), (6, _)] (fun (k : Int) => hs0) (fun (k : Int) => 0 ≤ k ∧ k ≤ i ∧ ∀ t, t < k.toNat → Hu.sameI xb ks ms i.toNat t = true) (fun (k : Int) => (i - k).toNat) (hF.sub ⟨rfl, rfl, rfl, rfl, rfl, trivial⟩) (by subst hhs0; exact hS) (by exact ⟨Int.le_refl _, by omega, fun j hj => absurd hj (by simp)⟩) ?_
    clear hF hS; rintro k a w hfact hF hS
    subst hhs0; (try dsimp only at hfact); (try dsimp only at hF); (try dsimp only at hS)
    obtain ⟨hk0, hk1, hns⟩ := hfact
    replace hS : St _ [] [_, _] _ := hS
    refine wp_seq_k ?_; intro K15 hK15
    refine wp_seq_k ?_; intro K16 hK16
    refine reg hF hS (sq rfl (q_move rfl) <|
      sq rfl (q_move rfl) <|
      sq rfl (q_lti rfl rfl) <|
      sq_end) ?_
    clear hF hS; intro a w hF hS
    refine hK16 _ _ ?_
    clear hK16
    refine wp_ifd hF rfl (fun hc4 => ?_) (fun hc4 => ?_)
    ·have hkk := hk16 k.toNat (by omega)
     refine wp_skip ?_
     refine hK15 _ _ ?_
     clear hK15
     refine wp_seq_k ?_; intro K17 hK17
     refine wp_block ?_
     refine wp_seq_k ?_; intro K18 hK18
     refine regq mixed kQ hS ?_
     refine wpq_seg hF (sq rfl (q_fieldAddr ty26 rfl rfl (s' := 0) kQ) <|
       sq rfl (q_ld_blk1 ty24 1 rfl rfl rfl rfl) <|
       sq rfl (q_move rfl) <|
       sq rfl (q_idx_sl ty24 ty4 hxb rfl rfl (by omega)) <|
       sq rfl (q_ld_T ty4 hxb zin0 rfl rfl (by omega)) <|
       sq rfl (q_move rfl) <|
       sq_end) ?_
     clear hF; intro a hF
     refine wpq_and 5 73 5 hF rfl rfl rfl rfl rfl (fun hg => have hg := hg; sq_go 73 rfl rfl rfl (q_fieldAddr ty26 rfl rfl (s' := 0) kQ) <|
       sq_go 73 rfl rfl rfl (q_ld_blk1 ty24 1 rfl rfl rfl rfl) <|
       sq_go 73 rfl rfl rfl (q_move rfl) <|
       sq_go 73 rfl rfl rfl (q_idx_sl ty24 ty4 hxb rfl rfl (by omega)) <|
       sq_go 73 rfl rfl rfl (q_ld_T ty4 hxb zin0 rfl rfl (by omega)) <|
       sq_end) rfl rfl ?_
     clear hF; intro a hF
     refine wpq_seg hF (sq rfl (q_move rfl) <|
       sq_end) ?_
     clear hF; intro a hF
     refine wpq_and 12 80 11 hF rfl rfl rfl rfl rfl (fun hg => have hg := hg; sq_go 80 rfl rfl rfl (q_fieldAddr ty31 rfl rfl (s' := 0) kQ) <|
       sq_go 80 rfl rfl rfl (q_ld_blk1 ty28 0 rfl rfl rfl rfl) <|
       sq_go 80 rfl rfl rfl (q_move rfl) <|
       sq_go 80 rfl rfl rfl (q_idx_sl ty28 ty66 hk rfl rfl (by omega)) <|
       sq_go 80 rfl rfl rfl (q_ld_AB ty66 hk zin0 rfl rfl (by decide) (by omega)) <|
       sq_go 80 rfl rfl rfl (q_fieldAddr ty31 rfl rfl (s' := 0) kQ) <|
       sq_go 80 rfl rfl rfl (q_ld_blk1 ty28 0 rfl rfl rfl rfl) <|
       sq_go 80 rfl rfl rfl (q_move rfl) <|
       sq_go 80 rfl rfl rfl (q_idx_sl ty28 ty66 hk rfl rfl (by omega)) <|
       sq_go 80 rfl rfl rfl (q_ld_AB ty66 hk zin0 rfl rfl (by decide) (by omega)) <|
       sq_go 80 rfl rfl rfl (q_eqAB ty66 ty5 kQ rfl rfl bQ bQ) <|
       sq_end) rfl rfl ?_
     clear hF; intro a hF
     refine wpq_seg hF (sq rfl (q_move rfl) <|
       sq_end) ?_
     clear hF; intro a hF
     refine wpq_and 25 93 11 hF rfl rfl rfl rfl rfl (fun hg => have hg := hg; sq_go 93 rfl rfl rfl (q_fieldAddr ty31 rfl rfl (s' := 0) kQ) <|
       sq_go 93 rfl rfl rfl (q_ld_blk1 ty22 0 rfl rfl rfl rfl) <|
       sq_go 93 rfl rfl rfl (q_move rfl) <|
       sq_go 93 rfl rfl rfl (q_idx_sl ty22 ty3 hm rfl rfl (by omega)) <|
       sq_go 93 rfl rfl rfl (q_ld_I ty3 hm zin0 rfl rfl (by omega)) <|
       sq_go 93 rfl rfl rfl (q_fieldAddr ty31 rfl rfl (s' := 0) kQ) <|
       sq_go 93 rfl rfl rfl (q_ld_blk1 ty22 0 rfl rfl rfl rfl) <|
       sq_go 93 rfl rfl rfl (q_move rfl) <|
       sq_go 93 rfl rfl rfl (q_idx_sl ty22 ty3 hm rfl rfl (by omega)) <|
       sq_go 93 rfl rfl rfl (q_ld_I ty3 hm zin0 rfl rfl (by omega)) <|
       sq_go 93 rfl rfl rfl (q_nei rfl rfl) <|
       sq_end) rfl rfl ?_
     clear hF; intro a hF
     refine wpq_nil ?_
     clear hS; intro w hS
     refine hK18 _ _ ?_
     clear hK18
     refine wp_if hF rfl (fun hc5 => ?_) (fun hc5 => ?_)
     ·(try simp only [Bool.or_eq_true, Bool.and_eq_true, Bool.or_eq_false_iff, Bool.and_eq_false_iff, decide_eq_true_eq, decide_eq_false_iff_not, Bool.not_eq_true', Bool.not_eq_false'] at hc5)
      refine wp_seq_k ?_; intro K19 hK19
      refine reg hF hS (sq rfl (q_assign rfl) <|
        sq_end) ?_
      clear hF hS; intro a w hF hS
      refine hK19 _ _ ?_
      clear hK19
      refine wp_ret ?_
      exact fn_ret (rs := [.tmp 4]) rfl hF hS (vs := [_]) ⟨rfl, trivial⟩ zQ zQ (by rw [Hu.fit_same (i := i.toNat) (j := k.toNat) (by omega) (by omega) hc5.1.1.1 hc5.1.1.2 hc5.1.2 hc5.2])
     ·(try simp only [Bool.or_eq_true, Bool.and_eq_true, Bool.or_eq_false_iff, Bool.and_eq_false_iff, decide_eq_true_eq, decide_eq_false_iff_not, Bool.not_eq_true', Bool.not_eq_false'] at hc5)
      refine wp_skip ?_
      refine hK17 _ _ ?_
      clear hK17
      refine reg hF hS (sq rfl (q_move rfl) <|
        sq rfl (q_addi rfl rfl (by omega)) <|
        sq rfl (q_assign rfl) <|
        sq_end) ?_
      clear hF hS; intro a w hF hS
      refine ⟨(k + 1), ?_, ?_, hF.sub ⟨rfl, rfl, rfl, rfl, rfl, trivial⟩, ?_⟩
      ·(try dsimp only); omega
      ·refine ⟨by omega, by omega, fun t ht => ?_⟩
       by_cases htk : t = k.toNat
       ·subst htk; exact Hu.same_f hc5
       ·exact hns t (by omega)
      ·exact hS
    ·refine wp_exit ?_
     refine hK10 _ _ ?_
     clear hK10
     refine reg hF hS (sq rfl (q_move rfl) <|
       sq rfl (q_addi rfl rfl (by omega)) <|
       sq rfl (q_assign rfl) <|
       sq_end) ?_
     clear hF hS; intro a w hF hS
     refine ⟨(i + 1), ?_, ?_, hF.sub ⟨rfl, rfl, rfl, rfl, trivial⟩, ?_⟩
     ·(try dsimp only); omega
     ·refine ⟨by omega, by omega, fun j hj => ?_⟩
      by_cases hji : j = i.toNat
      ·subst hji; exact Hu.fitI_of (Hu.rg_ok hc3) fun t ht => hns t (by omega)
      ·exact hno j (by omega)
     ·exact hS
  ·refine wp_exit ?_
   refine hK6 _ _ ?_
   clear hK6
   refine wp_seq_k ?_; intro K20 hK20
   refine reg hF hS (sq rfl (q_assign rfl) <|
     sq_end) ?_
   clear hF hS; intro a w hF hS
   refine hK20 _ _ ?_
   clear hK20
   refine wp_ret ?_
   exact fn_ret (rs := [.tmp 4]) rfl hF hS (vs := [_]) ⟨rfl, trivial⟩ zQ zQ (by rw [Hu.fit_ok hln (fun j hj => hno j (by omega))])

set_option maxRecDepth 4000 in
set_option maxHeartbeats 2000000 in
theorem rtell_ct (xN xS xB : Value) (xs : List Int) (xb : List Bool) (kV mV : Value) (ks : List (List UInt8)) (ms : List Int) (s : Int) (bad : Bool) (hl : xs.length < 1048576) (w : World) (hxn : xN.oneCell' = true) (hxs : Sl encI (ph w) xS xs) (hxb : Sl encT (ph w) xB xb) (hk : Sl (encA 16) (ph w) kV ks) (hm : Sl encI (ph w) mV ms) : Ct Try.prog 24 [.agg [xN, xS, xB].toArray, .agg [kV, mV].toArray, vi s, .bool bad] w (KnR (Hu.telK xs xb ks ms s bad)) := by
 refine fn_enter Try.func24 rfl Try.ntmps24 (Nat.le_of_ble_eq_true rfl) fun a hF hS => ?_
 have hsl := hxs.1
 have htl := hxb.1
 have hml := hm.1
 have hkl := hk.1
 have hix := Gu.ixF_range (fun y => decide (s = y)) xs
 have hmk := Hu.markOf_rng bad
 have hk16 : ∀ j, j < ks.length → (ks.getD j []).length = 16 := fun j hj => by have := hk.rep (i := j) (x := ks[j]) (by simp [hj]); rw [List.getD_eq_getElem?_getD, List.getElem?_eq_getElem hj]; exact this.1
 refine wp_seq_k ?_; intro K1 hK1
 refine regl ?_
 refine wpl_ef hF hS rfl (ef_boxA rfl) ?_
 clear hF hS; rintro _ _ _ a w ⟨b1, rfl, rfl, rfl⟩ hF hS
 refine wpl_ef hF hS rfl (ef_boxA rfl) ?_
 clear hF hS; rintro _ _ _ a w ⟨b2, rfl, rfl, rfl⟩ hF hS
 refine wpl_ef hF hS rfl (ef_allocA ty31) ?_
 clear hF hS; rintro _ _ _ a w ⟨b3, rfl, rfl, rfl⟩ hF hS
 refine wpl_sq hF hS (sq rfl (q_assign rfl) <|
   sq_end) ?_
 clear hF hS; intro a w hF hS
 refine wpList_nil ?_
 refine hK1 _ _ ?_
 clear hK1
 refine wp_seq_k ?_; intro K2 hK2
 refine wp_seq_k ?_; intro K3 hK3
 refine reg hF hS (sq rfl (q_ld_blkW ty26 2 rfl rfl bQ rfl) <|
   sq rfl (q_ld_blkW ty31 1 rfl rfl bQ rfl) <|
   sq rfl (q_call fn57 rfl (fun w hS => rfits_ct _ _ _ _ _ _ _ _ _ w hxn (Sl.mono (hS.le zin0) hxs) (Sl.mono (hS.le zin0) hxb) (Sl.mono (hS.le zin0) hk) (Sl.mono (hS.le zin0) hm)) (fun _ _ _ h => h)) <|
   sq rfl (q_not rfl) <|
   sq_end) ?_
 clear hF hS; intro a w hF hS
 refine hK3 _ _ ?_
 clear hK3
 refine wp_if hF rfl (fun hc1 => ?_) (fun hc1 => ?_)
 ·have hft : Hu.fitB xs xb ks ms = false := by simpa using hc1
  refine wp_seq_k ?_; intro K4 hK4
  refine regl ?_
  refine wpl_sq hF hS (sq rfl (q_buildP (places := [(0, 1), (1, 1)]) (cells := [.slice none 0 0, .slice none 0 0]) ty31 kQ rfl (by rfl)) <|
    sq_end) ?_
  clear hF hS; intro a w hF hS
  refine wpl_ef hF hS rfl (ef_storeW ty31 0 rfl rfl rfl rfl bQ (oc_cons rfl (oc_cons rfl oc_nil)) bQ) ?_
  clear hF hS; rintro _ _ _ a w ⟨rfl, rfl, rfl⟩ hF hS
  replace hS : St _ [] [_, _, _] _ := hS
  refine wpl_sq hF hS (sq rfl (q_assign rfl) <|
    sq_end) ?_
  clear hF hS; intro a w hF hS
  refine wpList_nil ?_
  refine hK4 _ _ ?_
  clear hK4
  refine wp_ret ?_
  replace hS := hS.zone00
  exact fn_ret (rs := [.cell 8 31, .tmp 9]) rfl hF hS (vs := [_, _]) ⟨⟨_, _, _, _, _, _, _, rfl, List.mem_of_getElem? (i := 0) rfl, ty31, .inl ⟨rfl, bQ, rfl⟩⟩, rfl, trivial⟩ (zs' := [fun _ => none]) (hs' := []) (List.singleton_sublist.2 (by simp)) zQ (kn_of (Hu.telK_1 hft) ⟨_, _, _, rfl, sl_nil, sl_nil, rfl, rfl⟩)
 ·have hft : Hu.fitB xs xb ks ms = true := by simpa using hc1
  have hfu := Hu.fit_use hft
  refine wp_skip ?_
  refine hK2 _ _ ?_
  clear hK2
  refine wp_seq_k ?_; intro K5 hK5
  refine reg hF hS (sq rfl (q_ld_blkW ty26 2 rfl rfl bQ rfl) <|
    sq rfl (q_move rfl) <|
    sq rfl (q_call fn45 rfl (fun w hS => rix_ct _ _ _ _ _ _ w hxn (Sl.mono (hS.le zin0) hxs) (Sl.mono (hS.le zin0) hxb)) (fun _ _ _ h => h)) <|
    sq rfl (q_assign rfl) <|
    sq_end) ?_
  clear hF hS; intro a w hF hS
  refine hK5 _ _ ?_
  clear hK5
  refine wp_seq_k ?_; intro K6 hK6
  refine wp_seq_k ?_; intro K7 hK7
  refine regl ?_
  refine wpl_sq hF hS (sq rfl (q_move rfl) <|
    sq rfl (q_lti rfl rfl) <|
    sq rfl (q_move rfl) <|
    sq_end) ?_
  clear hF hS; intro a w hF hS
  refine wpl_or 2 24 7 hF hS rfl rfl rfl rfl rfl (fun hg => have hg := (by first | exact of_decide_eq_false hg | exact hg); sq_go 24 rfl rfl rfl (q_fieldAddr ty26 rfl rfl (s' := 0) kQ) <|
    sq_go 24 rfl rfl rfl (q_ld_blk1 ty24 2 rfl rfl rfl rfl) <|
    sq_go 24 rfl rfl rfl (q_move rfl) <|
    sq_go 24 rfl rfl rfl (q_max rfl rfl) <|
    sq_go 24 rfl rfl rfl (q_idx_sl ty24 ty4 hxb rfl rfl (by omega)) <|
    sq_go 24 rfl rfl rfl (q_ld_T ty4 hxb zin0 rfl rfl (by omega)) <|
    sq_go 24 rfl rfl rfl (q_not rfl) <|
    sq_end) rfl rfl ?_
  clear hF hS; intro a w hF hS
  refine wpList_nil ?_
  refine hK7 _ _ ?_
  clear hK7
  refine wp_if hF rfl (fun hc2 => ?_) (fun hc2 => ?_)
  ·(try simp only [Bool.or_eq_true, Bool.and_eq_true, Bool.or_eq_false_iff, Bool.and_eq_false_iff, decide_eq_true_eq, decide_eq_false_iff_not, Bool.not_eq_true', Bool.not_eq_false'] at hc2)
   replace hc2 := Hu.max_or hc2
   refine wp_seq_k ?_; intro K8 hK8
   refine regl ?_
   refine wpl_sq hF hS (sq rfl (q_buildP (places := [(0, 1), (1, 1)]) (cells := [.slice none 0 0, .slice none 0 0]) ty31 kQ rfl (by rfl)) <|
     sq_end) ?_
   clear hF hS; intro a w hF hS
   refine wpl_ef hF hS rfl (ef_storeW ty31 0 rfl rfl rfl rfl bQ (oc_cons rfl (oc_cons rfl oc_nil)) bQ) ?_
   clear hF hS; rintro _ _ _ a w ⟨rfl, rfl, rfl⟩ hF hS
   replace hS : St _ [] [_, _, _] _ := hS
   refine wpl_sq hF hS (sq rfl (q_assign rfl) <|
     sq_end) ?_
   clear hF hS; intro a w hF hS
   refine wpList_nil ?_
   refine hK8 _ _ ?_
   clear hK8
   refine wp_ret ?_
   replace hS := hS.zone00
   exact fn_ret (rs := [.cell 8 31, .tmp 9]) rfl hF hS (vs := [_, _]) ⟨⟨_, _, _, _, _, _, _, rfl, List.mem_of_getElem? (i := 0) rfl, ty31, .inl ⟨rfl, bQ, rfl⟩⟩, rfl, trivial⟩ (zs' := [fun _ => none]) (hs' := []) (List.singleton_sublist.2 (by simp)) zQ (kn_of (Hu.telK_6 hft hc2) ⟨_, _, _, rfl, sl_nil, sl_nil, rfl, rfl⟩)
  ·(try simp only [Bool.or_eq_true, Bool.and_eq_true, Bool.or_eq_false_iff, Bool.and_eq_false_iff, decide_eq_true_eq, decide_eq_false_iff_not, Bool.not_eq_true', Bool.not_eq_false'] at hc2)
   replace hc2 := Hu.max_and hc2
   refine wp_skip ?_
   refine hK6 _ _ ?_
   clear hK6
   refine wp_seq_k ?_; intro K9 hK9
   refine reg hF hS (sq rfl (q_assign rfl) <|
     sq_end) ?_
   clear hF hS; intro a w hF hS
   refine hK9 _ _ ?_
   clear hK9
   obtain ⟨hs0, hhs0, hS⟩ : ∃ h, h = _ ∧ St _ _ h _ := ⟨_, rfl, hS⟩
   refine wp_cutx (γ := Int) (fun (mk9 : Int) => [(11, vi mk9)]) [(4, _), (5, _), (8, _), (10, _)] (fun (mk9 : Int) => hs0) (fun (mk9 : Int) => mk9 = Hu.markOf bad) (hF.sub ⟨rfl, rfl, rfl, rfl, trivial⟩) hS ?_ ?_
   ·subst hhs0
    refine wp_seq_k ?_; intro K10 hK10
    refine reg hF hS (sq rfl (q_move rfl) <|
      sq_end) ?_
    clear hF hS; intro a w hF hS
    refine hK10 _ _ ?_
    clear hK10
    refine wp_if hF rfl (fun hc3 => ?_) (fun hc3 => ?_)
    ·have hbd : Hu.markOf bad = 2 := by unfold Hu.markOf; rw [if_pos hc3]
     refine reg hF hS (sq rfl (q_assign rfl) <|
       sq_end) ?_
     clear hF hS; intro a w hF hS
     refine ⟨(2), ?_, hF.sub ⟨rfl, rfl, rfl, rfl, rfl, trivial⟩, ?_⟩
     ·exact hbd.symm
     ·exact hS
    ·have hbd : Hu.markOf bad = 1 := by unfold Hu.markOf; rw [if_neg (by rw [hc3]; decide)]
     refine wp_skip ?_
     refine ⟨(1), ?_, hF.sub ⟨rfl, rfl, rfl, rfl, rfl, trivial⟩, ?_⟩
     ·exact hbd.symm
     ·exact hS
   clear hF hS; rintro mk9 a w hfact hF hS
   subst hhs0; (try dsimp only at hfact); (try dsimp only at hF); (try dsimp only at hS)
   have hmk9 := hfact
   replace hS : St _ [] [_, _, _] _ := hS
   subst hmk9
   refine wp_seq_k ?_; intro K11 hK11
   refine wp_seq_k ?_; intro K12 hK12
   refine regl ?_
   refine wpl_sq hF hS (sq rfl (q_fieldAddr ty31 rfl rfl (s' := 0) kQ) <|
     sq rfl (q_ld_blk1 ty22 1 rfl rfl rfl rfl) <|
     sq rfl (q_move rfl) <|
     sq rfl (q_idx_sl ty22 ty3 hm rfl rfl (by omega)) <|
     sq rfl (q_ld_I ty3 hm zin0 rfl rfl (by omega)) <|
     sq rfl (q_nei rfl rfl) <|
     sq rfl (q_move rfl) <|
     sq_end) ?_
   clear hF hS; intro a w hF hS
   refine wpl_and 6 41 7 hF hS rfl rfl rfl rfl rfl (fun hg => have hg := (nd_true hg); sq_go 41 rfl rfl rfl (q_fieldAddr ty31 rfl rfl (s' := 0) kQ) <|
     sq_go 41 rfl rfl rfl (q_ld_blk1 ty22 1 rfl rfl rfl rfl) <|
     sq_go 41 rfl rfl rfl (q_move rfl) <|
     sq_go 41 rfl rfl rfl (q_idx_sl ty22 ty3 hm rfl rfl (by omega)) <|
     sq_go 41 rfl rfl rfl (q_ld_I ty3 hm zin0 rfl rfl (by omega)) <|
     sq_go 41 rfl rfl rfl (q_move rfl) <|
     sq_go 41 rfl rfl rfl (q_nei rfl rfl) <|
     sq_end) rfl rfl ?_
   clear hF hS; intro a w hF hS
   refine wpList_nil ?_
   refine hK12 _ _ ?_
   clear hK12
   refine wp_if hF rfl (fun hc4 => ?_) (fun hc4 => ?_)
   ·(try simp only [Bool.or_eq_true, Bool.and_eq_true, Bool.or_eq_false_iff, Bool.and_eq_false_iff, decide_eq_true_eq, decide_eq_false_iff_not, Bool.not_eq_true', Bool.not_eq_false'] at hc4)
    refine wp_seq_k ?_; intro K13 hK13
    refine regl ?_
    refine wpl_sq hF hS (sq rfl (q_buildP (places := [(0, 1), (1, 1)]) (cells := [.slice none 0 0, .slice none 0 0]) ty31 kQ rfl (by rfl)) <|
      sq_end) ?_
    clear hF hS; intro a w hF hS
    refine wpl_ef hF hS rfl (ef_storeW ty31 0 rfl rfl rfl rfl bQ (oc_cons rfl (oc_cons rfl oc_nil)) bQ) ?_
    clear hF hS; rintro _ _ _ a w ⟨rfl, rfl, rfl⟩ hF hS
    replace hS : St _ [] [_, _, _] _ := hS
    refine wpl_sq hF hS (sq rfl (q_assign rfl) <|
      sq_end) ?_
    clear hF hS; intro a w hF hS
    refine wpList_nil ?_
    refine hK13 _ _ ?_
    clear hK13
    refine wp_ret ?_
    replace hS := hS.zone00
    exact fn_ret (rs := [.cell 8 31, .tmp 9]) rfl hF hS (vs := [_, _]) ⟨⟨_, _, _, _, _, _, _, rfl, List.mem_of_getElem? (i := 0) rfl, ty31, .inl ⟨rfl, bQ, rfl⟩⟩, rfl, trivial⟩ (zs' := [fun _ => none]) (hs' := []) (List.singleton_sublist.2 (by simp)) zQ (kn_of (Hu.telK_14 hft (Hu.not_or hc2) (by omega)) ⟨_, _, _, rfl, sl_nil, sl_nil, rfl, rfl⟩)
   ·(try simp only [Bool.or_eq_true, Bool.and_eq_true, Bool.or_eq_false_iff, Bool.and_eq_false_iff, decide_eq_true_eq, decide_eq_false_iff_not, Bool.not_eq_true', Bool.not_eq_false'] at hc4)
    refine wp_skip ?_
    refine hK11 _ _ ?_
    clear hK11
    refine wp_seq_k ?_; intro K14 hK14
    revert hS; revert hF; apply regJ (J := J5 (α0 := Value) (α1 := Value) (α2 := Value) (α3 := Value) (α4 := Nat) 91 _ _ _ _ _) #[false, false, false, false, false, false, false, false, false, false, false] 11 mixed rfl rfl
    ·intro w hF hS
     refine goW_take 1 _ rfl kQ rfl hF (hS.keep sQ zQ) (q_fieldAddr ty31 rfl rfl (s' := 0) kQ) ?_
     clear hF; intro a hF
     refine goW_take 2 _ rfl kQ rfl hF (hS.keep sQ (zQ.k.n)) (q_ld_blk1 ty28 0 rfl rfl rfl rfl) ?_
     clear hF; intro a hF
     refine goW_take 5 _ rfl kQ rfl hF (hS.keep sQ zQ) (q_fieldAddr ty31 rfl rfl (s' := 0) kQ) ?_
     clear hF; intro a hF
     refine goW_take 6 _ rfl kQ rfl hF (hS.keep sQ (zQ.k.n)) (q_ld_blk1 ty22 0 rfl rfl rfl rfl) ?_
     clear hF; intro a hF
     refine goW_fork [0, 4, 9] kQ rfl ⟨?_, ?_, ?_, trivial⟩
     ·refine stepW_ef _ rfl rfl hF hS rfl (ef_bslice0 ty28 ty66) ?_
      clear hF hS; rintro v_11_0 _ _ a w ⟨rfl, rfl⟩ hF hS
      refine ⟨⟨.inr (hS.k1 (zQ.k.n.n)), .inr hS.k0, .inr (hS.k1 (zQ.k.n.n)), .inr hS.k0, trivial⟩, ?_⟩
      refine goW_fork [3, 4, 9] kQ rfl ⟨?_, ?_, ?_, trivial⟩
      ·refine stepW_ef _ rfl rfl hF hS rfl (ef_append ty28 ty66 0 rfl rfl rfl (src_slA ty28 hk zin0 (by decide)) bQ rfl (by decide)) ?_
       clear hF hS; rintro v_11_3 _ _ a w ⟨rfl, rfl⟩ hF hS
       refine ⟨⟨.inr (hS.k1 (zQ.k.n.n)), .inr hS.k0, iQ, iQ, trivial⟩, ?_⟩
       refine goW_fork [4, 9] kQ rfl ⟨?_, ?_, trivial⟩
       ·refine stepW_ef _ rfl rfl hF hS rfl (ef_bslice0 ty22 ty3) ?_
        clear hF hS; rintro v_11_4 _ _ a w ⟨rfl, rfl⟩ hF hS
        refine ⟨⟨.inr (hS.k1 (zQ.k.n.n.n)), .inr hS.k0, iQ, iQ, trivial⟩, ?_⟩
        refine goW_fork [7, 9] kQ rfl ⟨?_, ?_, trivial⟩
        ·refine stepW_ef _ rfl rfl hF hS rfl (ef_append ty22 ty3 0 rfl rfl rfl (src_slV ty22 hm zin0) bQ rfl (by decide)) ?_
         clear hF hS; rintro v_11_7 _ _ a w ⟨rfl, rfl⟩ hF hS
         refine ⟨⟨iQ, iQ, iQ, iQ, trivial⟩, ?_⟩
         refine goW_take 8 _ rfl kQ rfl hF (hS.keep sQ (zQ.k.k)) (q_buildS1 ty31 2 kQ rfl rfl (oc_cons (row_one (hS.own _ (List.mem_of_getElem? (i := 1) rfl)).1) (oc_cons (row_one (hS.own _ (List.mem_of_getElem? (i := 0) rfl)).1) oc_nil)) rfl rfl) ?_
         clear hF; intro a hF
         refine gQ 9 rfl rfl hF hS rfl (ef_allocA ty31) ?_
         clear hF hS; rintro _ _ _ a w ⟨b_11_9, rfl, rfl, rfl⟩ hF hS
         refine ⟨⟨.inr (hS.k1 (zQ.k.k.n)), iQ, iQ, iQ, iQ, trivial⟩, ?_⟩
         refine gQ 10 rfl rfl hF hS rfl (ef_storeW ty31 0 rfl rfl rfl rfl bQ (oc_cons (row_one (hS.own _ (List.mem_of_getElem? (i := 2) rfl)).1) (oc_cons (row_one (hS.own _ (List.mem_of_getElem? (i := 1) rfl)).1) oc_nil)) bQ) ?_
         clear hF hS; rintro _ _ _ a w ⟨rfl, rfl, rfl⟩ hF hS
         refine ⟨⟨iQ, iQ, iQ, iQ, iQ, trivial⟩, ?_⟩
         exact goW_done kQ (j5_mk v_11_0 v_11_3 v_11_4 v_11_7 b_11_9 (trivial) (hF.sub (L' := [(4, _), (5, _), (8, _), (10, _), (11, _), (12, _)]) ⟨rfl, rfl, rfl, rfl, rfl, rfl, trivial⟩) hS)
        ·refine stepW_ef _ rfl rfl hF hS rfl (ef_allocA ty31) ?_
         clear hF hS; rintro _ _ _ a w ⟨b_11_9, rfl, rfl, rfl⟩ hF hS
         refine ⟨⟨.inr (hS.k1 (zQ.k.n.n.n.n)), .inr hS.k0, iQ, iQ, trivial⟩, ?_⟩
         refine gQ 7 rfl rfl hF hS rfl (ef_append ty22 ty3 1 rfl rfl rfl (src_slV ty22 hm zin0) bQ rfl (by decide)) ?_
         clear hF hS; rintro v_11_7 _ _ a w ⟨rfl, rfl⟩ hF hS
         refine ⟨⟨iQ, iQ, iQ, iQ, trivial⟩, ?_⟩
         refine goW_take 8 _ rfl kQ rfl hF (hS.keep sQ (zQ.k.k.n)) (q_buildS1 ty31 2 kQ rfl rfl (oc_cons (row_one (hS.own _ (List.mem_of_getElem? (i := 2) rfl)).1) (oc_cons (row_one (hS.own _ (List.mem_of_getElem? (i := 1) rfl)).1) oc_nil)) rfl rfl) ?_
         clear hF; intro a hF
         refine gQ 10 rfl rfl hF hS rfl (ef_storeW ty31 0 rfl rfl rfl rfl bQ (oc_cons (row_one (hS.own _ (List.mem_of_getElem? (i := 2) rfl)).1) (oc_cons (row_one (hS.own _ (List.mem_of_getElem? (i := 1) rfl)).1) oc_nil)) bQ) ?_
         clear hF hS; rintro _ _ _ a w ⟨rfl, rfl, rfl⟩ hF hS
         refine ⟨⟨iQ, iQ, iQ, iQ, iQ, trivial⟩, ?_⟩
         exact goW_done kQ (j5_mk v_11_0 v_11_3 v_11_4 v_11_7 b_11_9 (trivial) (hF.sub (L' := [(4, _), (5, _), (8, _), (10, _), (11, _), (12, _)]) ⟨rfl, rfl, rfl, rfl, rfl, rfl, trivial⟩) hS)
       ·refine stepW_ef _ rfl rfl hF hS rfl (ef_allocA ty31) ?_
        clear hF hS; rintro _ _ _ a w ⟨b_11_9, rfl, rfl, rfl⟩ hF hS
        refine ⟨⟨.inr (hS.k1 (zQ.k.n.n.n)), .inr hS.k0, iQ, iQ, trivial⟩, ?_⟩
        refine gQ 4 rfl rfl hF hS rfl (ef_bslice0 ty22 ty3) ?_
        clear hF hS; rintro v_11_4 _ _ a w ⟨rfl, rfl⟩ hF hS
        refine ⟨⟨.inr (hS.k1 (zQ.k.n.n.n.n)), .inr hS.k0, iQ, iQ, trivial⟩, ?_⟩
        refine gQ 7 rfl rfl hF hS rfl (ef_append ty22 ty3 0 rfl rfl rfl (src_slV ty22 hm zin0) bQ rfl (by decide)) ?_
        clear hF hS; rintro v_11_7 _ _ a w ⟨rfl, rfl⟩ hF hS
        refine ⟨⟨iQ, iQ, iQ, iQ, trivial⟩, ?_⟩
        refine goW_take 8 _ rfl kQ rfl hF (hS.keep sQ (zQ.k.n.k)) (q_buildS1 ty31 2 kQ rfl rfl (oc_cons (row_one (hS.own _ (List.mem_of_getElem? (i := 2) rfl)).1) (oc_cons (row_one (hS.own _ (List.mem_of_getElem? (i := 0) rfl)).1) oc_nil)) rfl rfl) ?_
        clear hF; intro a hF
        refine gQ 10 rfl rfl hF hS rfl (ef_storeW ty31 1 rfl rfl rfl rfl bQ (oc_cons (row_one (hS.own _ (List.mem_of_getElem? (i := 2) rfl)).1) (oc_cons (row_one (hS.own _ (List.mem_of_getElem? (i := 0) rfl)).1) oc_nil)) bQ) ?_
        clear hF hS; rintro _ _ _ a w ⟨rfl, rfl, rfl⟩ hF hS
        refine ⟨⟨iQ, iQ, iQ, iQ, iQ, trivial⟩, ?_⟩
        exact goW_done kQ (j5_mk v_11_0 v_11_3 v_11_4 v_11_7 b_11_9 (trivial) (hF.sub (L' := [(4, _), (5, _), (8, _), (10, _), (11, _), (12, _)]) ⟨rfl, rfl, rfl, rfl, rfl, rfl, trivial⟩) (hS.perm (.swap _ _ _)))
      ·refine stepW_ef _ rfl rfl hF hS rfl (ef_bslice0 ty22 ty3) ?_
       clear hF hS; rintro v_11_4 _ _ a w ⟨rfl, rfl⟩ hF hS
       refine ⟨⟨.inr (hS.k1 (zQ.k.n.n.n)), .inr hS.k0, .inr (hS.k1 (zQ.k.n.n.n)), .inr hS.k0, trivial⟩, ?_⟩
       refine goW_fork [3, 9] kQ rfl ⟨?_, ?_, trivial⟩
       ·refine stepW_ef _ rfl rfl hF hS rfl (ef_append ty28 ty66 1 rfl rfl rfl (src_slA ty28 hk zin0 (by decide)) bQ rfl (by decide)) ?_
        clear hF hS; rintro v_11_3 _ _ a w ⟨rfl, rfl⟩ hF hS
        refine ⟨⟨.inr (hS.k1 (zQ.k.n.n.n)), .inr hS.k0, iQ, iQ, trivial⟩, ?_⟩
        refine goW_fork [7, 9] kQ rfl ⟨?_, ?_, trivial⟩
        ·refine stepW_ef _ rfl rfl hF hS rfl (ef_append ty22 ty3 0 rfl rfl rfl (src_slV ty22 hm zin0) bQ rfl (by decide)) ?_
         clear hF hS; rintro v_11_7 _ _ a w ⟨rfl, rfl⟩ hF hS
         refine ⟨⟨iQ, iQ, iQ, iQ, trivial⟩, ?_⟩
         refine goW_take 8 _ rfl kQ rfl hF (hS.keep sQ (zQ.k.k)) (q_buildS1 ty31 2 kQ rfl rfl (oc_cons (row_one (hS.own _ (List.mem_of_getElem? (i := 1) rfl)).1) (oc_cons (row_one (hS.own _ (List.mem_of_getElem? (i := 0) rfl)).1) oc_nil)) rfl rfl) ?_
         clear hF; intro a hF
         refine gQ 9 rfl rfl hF hS rfl (ef_allocA ty31) ?_
         clear hF hS; rintro _ _ _ a w ⟨b_11_9, rfl, rfl, rfl⟩ hF hS
         refine ⟨⟨.inr (hS.k1 (zQ.k.k.n)), iQ, iQ, iQ, iQ, trivial⟩, ?_⟩
         refine gQ 10 rfl rfl hF hS rfl (ef_storeW ty31 0 rfl rfl rfl rfl bQ (oc_cons (row_one (hS.own _ (List.mem_of_getElem? (i := 2) rfl)).1) (oc_cons (row_one (hS.own _ (List.mem_of_getElem? (i := 1) rfl)).1) oc_nil)) bQ) ?_
         clear hF hS; rintro _ _ _ a w ⟨rfl, rfl, rfl⟩ hF hS
         refine ⟨⟨iQ, iQ, iQ, iQ, iQ, trivial⟩, ?_⟩
         exact goW_done kQ (j5_mk v_11_0 v_11_3 v_11_4 v_11_7 b_11_9 (trivial) (hF.sub (L' := [(4, _), (5, _), (8, _), (10, _), (11, _), (12, _)]) ⟨rfl, rfl, rfl, rfl, rfl, rfl, trivial⟩) hS)
        ·refine stepW_ef _ rfl rfl hF hS rfl (ef_allocA ty31) ?_
         clear hF hS; rintro _ _ _ a w ⟨b_11_9, rfl, rfl, rfl⟩ hF hS
         refine ⟨⟨.inr (hS.k1 (zQ.k.n.n.n.n)), .inr hS.k0, iQ, iQ, trivial⟩, ?_⟩
         refine gQ 7 rfl rfl hF hS rfl (ef_append ty22 ty3 1 rfl rfl rfl (src_slV ty22 hm zin0) bQ rfl (by decide)) ?_
         clear hF hS; rintro v_11_7 _ _ a w ⟨rfl, rfl⟩ hF hS
         refine ⟨⟨iQ, iQ, iQ, iQ, trivial⟩, ?_⟩
         refine goW_take 8 _ rfl kQ rfl hF (hS.keep sQ (zQ.k.k.n)) (q_buildS1 ty31 2 kQ rfl rfl (oc_cons (row_one (hS.own _ (List.mem_of_getElem? (i := 2) rfl)).1) (oc_cons (row_one (hS.own _ (List.mem_of_getElem? (i := 1) rfl)).1) oc_nil)) rfl rfl) ?_
         clear hF; intro a hF
         refine gQ 10 rfl rfl hF hS rfl (ef_storeW ty31 0 rfl rfl rfl rfl bQ (oc_cons (row_one (hS.own _ (List.mem_of_getElem? (i := 2) rfl)).1) (oc_cons (row_one (hS.own _ (List.mem_of_getElem? (i := 1) rfl)).1) oc_nil)) bQ) ?_
         clear hF hS; rintro _ _ _ a w ⟨rfl, rfl, rfl⟩ hF hS
         refine ⟨⟨iQ, iQ, iQ, iQ, iQ, trivial⟩, ?_⟩
         exact goW_done kQ (j5_mk v_11_0 v_11_3 v_11_4 v_11_7 b_11_9 (trivial) (hF.sub (L' := [(4, _), (5, _), (8, _), (10, _), (11, _), (12, _)]) ⟨rfl, rfl, rfl, rfl, rfl, rfl, trivial⟩) hS)
       ·refine stepW_ef _ rfl rfl hF hS rfl (ef_allocA ty31) ?_
        clear hF hS; rintro _ _ _ a w ⟨b_11_9, rfl, rfl, rfl⟩ hF hS
        refine ⟨⟨.inr (hS.k1 (zQ.k.n.n.n.n)), .inr hS.k0, .inr (hS.k1 (zQ.k.n.n.n.n)), .inr hS.k0, trivial⟩, ?_⟩
        refine gQ 3 rfl rfl hF hS rfl (ef_append ty28 ty66 2 rfl rfl rfl (src_slA ty28 hk zin0 (by decide)) bQ rfl (by decide)) ?_
        clear hF hS; rintro v_11_3 _ _ a w ⟨rfl, rfl⟩ hF hS
        refine ⟨⟨.inr (hS.k1 (zQ.k.n.n.n.n)), .inr hS.k0, iQ, iQ, trivial⟩, ?_⟩
        refine gQ 7 rfl rfl hF hS rfl (ef_append ty22 ty3 1 rfl rfl rfl (src_slV ty22 hm zin0) bQ rfl (by decide)) ?_
        clear hF hS; rintro v_11_7 _ _ a w ⟨rfl, rfl⟩ hF hS
        refine ⟨⟨iQ, iQ, iQ, iQ, trivial⟩, ?_⟩
        refine goW_take 8 _ rfl kQ rfl hF (hS.keep sQ (zQ.k.k.n)) (q_buildS1 ty31 2 kQ rfl rfl (oc_cons (row_one (hS.own _ (List.mem_of_getElem? (i := 2) rfl)).1) (oc_cons (row_one (hS.own _ (List.mem_of_getElem? (i := 1) rfl)).1) oc_nil)) rfl rfl) ?_
        clear hF; intro a hF
        refine gQ 10 rfl rfl hF hS rfl (ef_storeW ty31 0 rfl rfl rfl rfl bQ (oc_cons (row_one (hS.own _ (List.mem_of_getElem? (i := 2) rfl)).1) (oc_cons (row_one (hS.own _ (List.mem_of_getElem? (i := 1) rfl)).1) oc_nil)) bQ) ?_
        clear hF hS; rintro _ _ _ a w ⟨rfl, rfl, rfl⟩ hF hS
        refine ⟨⟨iQ, iQ, iQ, iQ, iQ, trivial⟩, ?_⟩
        exact goW_done kQ (j5_mk v_11_0 v_11_3 v_11_4 v_11_7 b_11_9 (trivial) (hF.sub (L' := [(4, _), (5, _), (8, _), (10, _), (11, _), (12, _)]) ⟨rfl, rfl, rfl, rfl, rfl, rfl, trivial⟩) hS)
      ·refine stepW_ef _ rfl rfl hF hS rfl (ef_allocA ty31) ?_
       clear hF hS; rintro _ _ _ a w ⟨b_11_9, rfl, rfl, rfl⟩ hF hS
       refine ⟨⟨.inr (hS.k1 (zQ.k.n.n.n)), .inr hS.k0, .inr (hS.k1 (zQ.k.n.n.n)), .inr hS.k0, trivial⟩, ?_⟩
       refine goW_fork [3, 4] kQ rfl ⟨?_, ?_, trivial⟩
       ·refine stepW_ef _ rfl rfl hF hS rfl (ef_append ty28 ty66 1 rfl rfl rfl (src_slA ty28 hk zin0 (by decide)) bQ rfl (by decide)) ?_
        clear hF hS; rintro v_11_3 _ _ a w ⟨rfl, rfl⟩ hF hS
        refine ⟨⟨.inr (hS.k1 (zQ.k.n.n.n)), .inr hS.k0, iQ, iQ, trivial⟩, ?_⟩
        refine gQ 4 rfl rfl hF hS rfl (ef_bslice0 ty22 ty3) ?_
        clear hF hS; rintro v_11_4 _ _ a w ⟨rfl, rfl⟩ hF hS
        refine ⟨⟨.inr (hS.k1 (zQ.k.n.n.n.n)), .inr hS.k0, iQ, iQ, trivial⟩, ?_⟩
        refine gQ 7 rfl rfl hF hS rfl (ef_append ty22 ty3 0 rfl rfl rfl (src_slV ty22 hm zin0) bQ rfl (by decide)) ?_
        clear hF hS; rintro v_11_7 _ _ a w ⟨rfl, rfl⟩ hF hS
        refine ⟨⟨iQ, iQ, iQ, iQ, trivial⟩, ?_⟩
        refine goW_take 8 _ rfl kQ rfl hF (hS.keep sQ (zQ.k.n.k)) (q_buildS1 ty31 2 kQ rfl rfl (oc_cons (row_one (hS.own _ (List.mem_of_getElem? (i := 2) rfl)).1) (oc_cons (row_one (hS.own _ (List.mem_of_getElem? (i := 0) rfl)).1) oc_nil)) rfl rfl) ?_
        clear hF; intro a hF
        refine gQ 10 rfl rfl hF hS rfl (ef_storeW ty31 1 rfl rfl rfl rfl bQ (oc_cons (row_one (hS.own _ (List.mem_of_getElem? (i := 2) rfl)).1) (oc_cons (row_one (hS.own _ (List.mem_of_getElem? (i := 0) rfl)).1) oc_nil)) bQ) ?_
        clear hF hS; rintro _ _ _ a w ⟨rfl, rfl, rfl⟩ hF hS
        refine ⟨⟨iQ, iQ, iQ, iQ, iQ, trivial⟩, ?_⟩
        exact goW_done kQ (j5_mk v_11_0 v_11_3 v_11_4 v_11_7 b_11_9 (trivial) (hF.sub (L' := [(4, _), (5, _), (8, _), (10, _), (11, _), (12, _)]) ⟨rfl, rfl, rfl, rfl, rfl, rfl, trivial⟩) (hS.perm (.swap _ _ _)))
       ·refine stepW_ef _ rfl rfl hF hS rfl (ef_bslice0 ty22 ty3) ?_
        clear hF hS; rintro v_11_4 _ _ a w ⟨rfl, rfl⟩ hF hS
        refine ⟨⟨.inr (hS.k1 (zQ.k.n.n.n.n)), .inr hS.k0, .inr (hS.k1 (zQ.k.n.n.n.n)), .inr hS.k0, trivial⟩, ?_⟩
        refine gQ 3 rfl rfl hF hS rfl (ef_append ty28 ty66 2 rfl rfl rfl (src_slA ty28 hk zin0 (by decide)) bQ rfl (by decide)) ?_
        clear hF hS; rintro v_11_3 _ _ a w ⟨rfl, rfl⟩ hF hS
        refine ⟨⟨.inr (hS.k1 (zQ.k.n.n.n.n)), .inr hS.k0, iQ, iQ, trivial⟩, ?_⟩
        refine gQ 7 rfl rfl hF hS rfl (ef_append ty22 ty3 0 rfl rfl rfl (src_slV ty22 hm zin0) bQ rfl (by decide)) ?_
        clear hF hS; rintro v_11_7 _ _ a w ⟨rfl, rfl⟩ hF hS
        refine ⟨⟨iQ, iQ, iQ, iQ, trivial⟩, ?_⟩
        refine goW_take 8 _ rfl kQ rfl hF (hS.keep sQ (zQ.k.n.k)) (q_buildS1 ty31 2 kQ rfl rfl (oc_cons (row_one (hS.own _ (List.mem_of_getElem? (i := 2) rfl)).1) (oc_cons (row_one (hS.own _ (List.mem_of_getElem? (i := 0) rfl)).1) oc_nil)) rfl rfl) ?_
        clear hF; intro a hF
        refine gQ 10 rfl rfl hF hS rfl (ef_storeW ty31 1 rfl rfl rfl rfl bQ (oc_cons (row_one (hS.own _ (List.mem_of_getElem? (i := 2) rfl)).1) (oc_cons (row_one (hS.own _ (List.mem_of_getElem? (i := 0) rfl)).1) oc_nil)) bQ) ?_
        clear hF hS; rintro _ _ _ a w ⟨rfl, rfl, rfl⟩ hF hS
        refine ⟨⟨iQ, iQ, iQ, iQ, iQ, trivial⟩, ?_⟩
        exact goW_done kQ (j5_mk v_11_0 v_11_3 v_11_4 v_11_7 b_11_9 (trivial) (hF.sub (L' := [(4, _), (5, _), (8, _), (10, _), (11, _), (12, _)]) ⟨rfl, rfl, rfl, rfl, rfl, rfl, trivial⟩) (hS.perm (.swap _ _ _)))
     ·refine stepW_ef _ rfl rfl hF hS rfl (ef_bslice0 ty22 ty3) ?_
      clear hF hS; rintro v_11_4 _ _ a w ⟨rfl, rfl⟩ hF hS
      refine ⟨⟨.inr (hS.k1 (zQ.k.n.n)), .inr hS.k0, .inr (hS.k1 (zQ.k.n.n)), .inr hS.k0, trivial⟩, ?_⟩
      refine goW_fork [0, 9] kQ rfl ⟨?_, ?_, trivial⟩
      ·refine stepW_ef _ rfl rfl hF hS rfl (ef_bslice0 ty28 ty66) ?_
       clear hF hS; rintro v_11_0 _ _ a w ⟨rfl, rfl⟩ hF hS
       refine ⟨⟨.inr (hS.k1 (zQ.k.n.n.n)), .inr hS.k0, .inr (hS.k1 (zQ.k.n.n.n)), .inr hS.k0, trivial⟩, ?_⟩
       refine goW_fork [3, 9] kQ rfl ⟨?_, ?_, trivial⟩
       ·refine stepW_ef _ rfl rfl hF hS rfl (ef_append ty28 ty66 0 rfl rfl rfl (src_slA ty28 hk zin0 (by decide)) bQ rfl (by decide)) ?_
        clear hF hS; rintro v_11_3 _ _ a w ⟨rfl, rfl⟩ hF hS
        refine ⟨⟨.inr (hS.k1 (zQ.k.n.n.n)), .inr hS.k0, iQ, iQ, trivial⟩, ?_⟩
        refine goW_fork [7, 9] kQ rfl ⟨?_, ?_, trivial⟩
        ·refine stepW_ef _ rfl rfl hF hS rfl (ef_append ty22 ty3 1 rfl rfl rfl (src_slV ty22 hm zin0) bQ rfl (by decide)) ?_
         clear hF hS; rintro v_11_7 _ _ a w ⟨rfl, rfl⟩ hF hS
         refine ⟨⟨iQ, iQ, iQ, iQ, trivial⟩, ?_⟩
         refine goW_take 8 _ rfl kQ rfl hF (hS.keep sQ (zQ.k.k)) (q_buildS1 ty31 2 kQ rfl rfl (oc_cons (row_one (hS.own _ (List.mem_of_getElem? (i := 0) rfl)).1) (oc_cons (row_one (hS.own _ (List.mem_of_getElem? (i := 1) rfl)).1) oc_nil)) rfl rfl) ?_
         clear hF; intro a hF
         refine gQ 9 rfl rfl hF hS rfl (ef_allocA ty31) ?_
         clear hF hS; rintro _ _ _ a w ⟨b_11_9, rfl, rfl, rfl⟩ hF hS
         refine ⟨⟨.inr (hS.k1 (zQ.k.k.n)), iQ, iQ, iQ, iQ, trivial⟩, ?_⟩
         refine gQ 10 rfl rfl hF hS rfl (ef_storeW ty31 0 rfl rfl rfl rfl bQ (oc_cons (row_one (hS.own _ (List.mem_of_getElem? (i := 1) rfl)).1) (oc_cons (row_one (hS.own _ (List.mem_of_getElem? (i := 2) rfl)).1) oc_nil)) bQ) ?_
         clear hF hS; rintro _ _ _ a w ⟨rfl, rfl, rfl⟩ hF hS
         refine ⟨⟨iQ, iQ, iQ, iQ, iQ, trivial⟩, ?_⟩
         exact goW_done kQ (j5_mk v_11_0 v_11_3 v_11_4 v_11_7 b_11_9 (trivial) (hF.sub (L' := [(4, _), (5, _), (8, _), (10, _), (11, _), (12, _)]) ⟨rfl, rfl, rfl, rfl, rfl, rfl, trivial⟩) (hS.perm (.cons _ (.swap _ _ _))))
        ·refine stepW_ef _ rfl rfl hF hS rfl (ef_allocA ty31) ?_
         clear hF hS; rintro _ _ _ a w ⟨b_11_9, rfl, rfl, rfl⟩ hF hS
         refine ⟨⟨.inr (hS.k1 (zQ.k.n.n.n.n)), .inr hS.k0, iQ, iQ, trivial⟩, ?_⟩
         refine gQ 7 rfl rfl hF hS rfl (ef_append ty22 ty3 2 rfl rfl rfl (src_slV ty22 hm zin0) bQ rfl (by decide)) ?_
         clear hF hS; rintro v_11_7 _ _ a w ⟨rfl, rfl⟩ hF hS
         refine ⟨⟨iQ, iQ, iQ, iQ, trivial⟩, ?_⟩
         refine goW_take 8 _ rfl kQ rfl hF (hS.keep sQ (zQ.k.k.n)) (q_buildS1 ty31 2 kQ rfl rfl (oc_cons (row_one (hS.own _ (List.mem_of_getElem? (i := 1) rfl)).1) (oc_cons (row_one (hS.own _ (List.mem_of_getElem? (i := 2) rfl)).1) oc_nil)) rfl rfl) ?_
         clear hF; intro a hF
         refine gQ 10 rfl rfl hF hS rfl (ef_storeW ty31 0 rfl rfl rfl rfl bQ (oc_cons (row_one (hS.own _ (List.mem_of_getElem? (i := 1) rfl)).1) (oc_cons (row_one (hS.own _ (List.mem_of_getElem? (i := 2) rfl)).1) oc_nil)) bQ) ?_
         clear hF hS; rintro _ _ _ a w ⟨rfl, rfl, rfl⟩ hF hS
         refine ⟨⟨iQ, iQ, iQ, iQ, iQ, trivial⟩, ?_⟩
         exact goW_done kQ (j5_mk v_11_0 v_11_3 v_11_4 v_11_7 b_11_9 (trivial) (hF.sub (L' := [(4, _), (5, _), (8, _), (10, _), (11, _), (12, _)]) ⟨rfl, rfl, rfl, rfl, rfl, rfl, trivial⟩) (hS.perm (.cons _ (.swap _ _ _))))
       ·refine stepW_ef _ rfl rfl hF hS rfl (ef_allocA ty31) ?_
        clear hF hS; rintro _ _ _ a w ⟨b_11_9, rfl, rfl, rfl⟩ hF hS
        refine ⟨⟨.inr (hS.k1 (zQ.k.n.n.n.n)), .inr hS.k0, .inr (hS.k1 (zQ.k.n.n.n.n)), .inr hS.k0, trivial⟩, ?_⟩
        refine gQ 3 rfl rfl hF hS rfl (ef_append ty28 ty66 1 rfl rfl rfl (src_slA ty28 hk zin0 (by decide)) bQ rfl (by decide)) ?_
        clear hF hS; rintro v_11_3 _ _ a w ⟨rfl, rfl⟩ hF hS
        refine ⟨⟨.inr (hS.k1 (zQ.k.n.n.n.n)), .inr hS.k0, iQ, iQ, trivial⟩, ?_⟩
        refine gQ 7 rfl rfl hF hS rfl (ef_append ty22 ty3 2 rfl rfl rfl (src_slV ty22 hm zin0) bQ rfl (by decide)) ?_
        clear hF hS; rintro v_11_7 _ _ a w ⟨rfl, rfl⟩ hF hS
        refine ⟨⟨iQ, iQ, iQ, iQ, trivial⟩, ?_⟩
        refine goW_take 8 _ rfl kQ rfl hF (hS.keep sQ (zQ.k.k.n)) (q_buildS1 ty31 2 kQ rfl rfl (oc_cons (row_one (hS.own _ (List.mem_of_getElem? (i := 1) rfl)).1) (oc_cons (row_one (hS.own _ (List.mem_of_getElem? (i := 2) rfl)).1) oc_nil)) rfl rfl) ?_
        clear hF; intro a hF
        refine gQ 10 rfl rfl hF hS rfl (ef_storeW ty31 0 rfl rfl rfl rfl bQ (oc_cons (row_one (hS.own _ (List.mem_of_getElem? (i := 1) rfl)).1) (oc_cons (row_one (hS.own _ (List.mem_of_getElem? (i := 2) rfl)).1) oc_nil)) bQ) ?_
        clear hF hS; rintro _ _ _ a w ⟨rfl, rfl, rfl⟩ hF hS
        refine ⟨⟨iQ, iQ, iQ, iQ, iQ, trivial⟩, ?_⟩
        exact goW_done kQ (j5_mk v_11_0 v_11_3 v_11_4 v_11_7 b_11_9 (trivial) (hF.sub (L' := [(4, _), (5, _), (8, _), (10, _), (11, _), (12, _)]) ⟨rfl, rfl, rfl, rfl, rfl, rfl, trivial⟩) (hS.perm (.cons _ (.swap _ _ _))))
      ·refine stepW_ef _ rfl rfl hF hS rfl (ef_allocA ty31) ?_
       clear hF hS; rintro _ _ _ a w ⟨b_11_9, rfl, rfl, rfl⟩ hF hS
       refine ⟨⟨.inr (hS.k1 (zQ.k.n.n.n)), .inr hS.k0, .inr (hS.k1 (zQ.k.n.n.n)), .inr hS.k0, trivial⟩, ?_⟩
       refine gQ 0 rfl rfl hF hS rfl (ef_bslice0 ty28 ty66) ?_
       clear hF hS; rintro v_11_0 _ _ a w ⟨rfl, rfl⟩ hF hS
       refine ⟨⟨.inr (hS.k1 (zQ.k.n.n.n.n)), .inr hS.k0, .inr (hS.k1 (zQ.k.n.n.n.n)), .inr hS.k0, trivial⟩, ?_⟩
       refine gQ 3 rfl rfl hF hS rfl (ef_append ty28 ty66 0 rfl rfl rfl (src_slA ty28 hk zin0 (by decide)) bQ rfl (by decide)) ?_
       clear hF hS; rintro v_11_3 _ _ a w ⟨rfl, rfl⟩ hF hS
       refine ⟨⟨.inr (hS.k1 (zQ.k.n.n.n.n)), .inr hS.k0, iQ, iQ, trivial⟩, ?_⟩
       refine gQ 7 rfl rfl hF hS rfl (ef_append ty22 ty3 2 rfl rfl rfl (src_slV ty22 hm zin0) bQ rfl (by decide)) ?_
       clear hF hS; rintro v_11_7 _ _ a w ⟨rfl, rfl⟩ hF hS
       refine ⟨⟨iQ, iQ, iQ, iQ, trivial⟩, ?_⟩
       refine goW_take 8 _ rfl kQ rfl hF (hS.keep sQ (zQ.k.n.k)) (q_buildS1 ty31 2 kQ rfl rfl (oc_cons (row_one (hS.own _ (List.mem_of_getElem? (i := 0) rfl)).1) (oc_cons (row_one (hS.own _ (List.mem_of_getElem? (i := 2) rfl)).1) oc_nil)) rfl rfl) ?_
       clear hF; intro a hF
       refine gQ 10 rfl rfl hF hS rfl (ef_storeW ty31 1 rfl rfl rfl rfl bQ (oc_cons (row_one (hS.own _ (List.mem_of_getElem? (i := 0) rfl)).1) (oc_cons (row_one (hS.own _ (List.mem_of_getElem? (i := 2) rfl)).1) oc_nil)) bQ) ?_
       clear hF hS; rintro _ _ _ a w ⟨rfl, rfl, rfl⟩ hF hS
       refine ⟨⟨iQ, iQ, iQ, iQ, iQ, trivial⟩, ?_⟩
       exact goW_done kQ (j5_mk v_11_0 v_11_3 v_11_4 v_11_7 b_11_9 (trivial) (hF.sub (L' := [(4, _), (5, _), (8, _), (10, _), (11, _), (12, _)]) ⟨rfl, rfl, rfl, rfl, rfl, rfl, trivial⟩) ((hS.perm (.swap _ _ _)).perm (.cons _ (.swap _ _ _))))
     ·refine stepW_ef _ rfl rfl hF hS rfl (ef_allocA ty31) ?_
      clear hF hS; rintro _ _ _ a w ⟨b_11_9, rfl, rfl, rfl⟩ hF hS
      refine ⟨⟨.inr (hS.k1 (zQ.k.n.n)), .inr hS.k0, .inr (hS.k1 (zQ.k.n.n)), .inr hS.k0, trivial⟩, ?_⟩
      refine goW_fork [0, 4] kQ rfl ⟨?_, ?_, trivial⟩
      ·refine stepW_ef _ rfl rfl hF hS rfl (ef_bslice0 ty28 ty66) ?_
       clear hF hS; rintro v_11_0 _ _ a w ⟨rfl, rfl⟩ hF hS
       refine ⟨⟨.inr (hS.k1 (zQ.k.n.n.n)), .inr hS.k0, .inr (hS.k1 (zQ.k.n.n.n)), .inr hS.k0, trivial⟩, ?_⟩
       refine goW_fork [3, 4] kQ rfl ⟨?_, ?_, trivial⟩
       ·refine stepW_ef _ rfl rfl hF hS rfl (ef_append ty28 ty66 0 rfl rfl rfl (src_slA ty28 hk zin0 (by decide)) bQ rfl (by decide)) ?_
        clear hF hS; rintro v_11_3 _ _ a w ⟨rfl, rfl⟩ hF hS
        refine ⟨⟨.inr (hS.k1 (zQ.k.n.n.n)), .inr hS.k0, iQ, iQ, trivial⟩, ?_⟩
        refine gQ 4 rfl rfl hF hS rfl (ef_bslice0 ty22 ty3) ?_
        clear hF hS; rintro v_11_4 _ _ a w ⟨rfl, rfl⟩ hF hS
        refine ⟨⟨.inr (hS.k1 (zQ.k.n.n.n.n)), .inr hS.k0, iQ, iQ, trivial⟩, ?_⟩
        refine gQ 7 rfl rfl hF hS rfl (ef_append ty22 ty3 0 rfl rfl rfl (src_slV ty22 hm zin0) bQ rfl (by decide)) ?_
        clear hF hS; rintro v_11_7 _ _ a w ⟨rfl, rfl⟩ hF hS
        refine ⟨⟨iQ, iQ, iQ, iQ, trivial⟩, ?_⟩
        refine goW_take 8 _ rfl kQ rfl hF (hS.keep sQ (zQ.k.k)) (q_buildS1 ty31 2 kQ rfl rfl (oc_cons (row_one (hS.own _ (List.mem_of_getElem? (i := 1) rfl)).1) (oc_cons (row_one (hS.own _ (List.mem_of_getElem? (i := 0) rfl)).1) oc_nil)) rfl rfl) ?_
        clear hF; intro a hF
        refine gQ 10 rfl rfl hF hS rfl (ef_storeW ty31 2 rfl rfl rfl rfl bQ (oc_cons (row_one (hS.own _ (List.mem_of_getElem? (i := 1) rfl)).1) (oc_cons (row_one (hS.own _ (List.mem_of_getElem? (i := 0) rfl)).1) oc_nil)) bQ) ?_
        clear hF hS; rintro _ _ _ a w ⟨rfl, rfl, rfl⟩ hF hS
        refine ⟨⟨iQ, iQ, iQ, iQ, iQ, trivial⟩, ?_⟩
        exact goW_done kQ (j5_mk v_11_0 v_11_3 v_11_4 v_11_7 b_11_9 (trivial) (hF.sub (L' := [(4, _), (5, _), (8, _), (10, _), (11, _), (12, _)]) ⟨rfl, rfl, rfl, rfl, rfl, rfl, trivial⟩) ((hS.perm (.cons _ (.swap _ _ _))).perm (.swap _ _ _)))
       ·refine stepW_ef _ rfl rfl hF hS rfl (ef_bslice0 ty22 ty3) ?_
        clear hF hS; rintro v_11_4 _ _ a w ⟨rfl, rfl⟩ hF hS
        refine ⟨⟨.inr (hS.k1 (zQ.k.n.n.n.n)), .inr hS.k0, .inr (hS.k1 (zQ.k.n.n.n.n)), .inr hS.k0, trivial⟩, ?_⟩
        refine gQ 3 rfl rfl hF hS rfl (ef_append ty28 ty66 1 rfl rfl rfl (src_slA ty28 hk zin0 (by decide)) bQ rfl (by decide)) ?_
        clear hF hS; rintro v_11_3 _ _ a w ⟨rfl, rfl⟩ hF hS
        refine ⟨⟨.inr (hS.k1 (zQ.k.n.n.n.n)), .inr hS.k0, iQ, iQ, trivial⟩, ?_⟩
        refine gQ 7 rfl rfl hF hS rfl (ef_append ty22 ty3 0 rfl rfl rfl (src_slV ty22 hm zin0) bQ rfl (by decide)) ?_
        clear hF hS; rintro v_11_7 _ _ a w ⟨rfl, rfl⟩ hF hS
        refine ⟨⟨iQ, iQ, iQ, iQ, trivial⟩, ?_⟩
        refine goW_take 8 _ rfl kQ rfl hF (hS.keep sQ (zQ.k.k)) (q_buildS1 ty31 2 kQ rfl rfl (oc_cons (row_one (hS.own _ (List.mem_of_getElem? (i := 1) rfl)).1) (oc_cons (row_one (hS.own _ (List.mem_of_getElem? (i := 0) rfl)).1) oc_nil)) rfl rfl) ?_
        clear hF; intro a hF
        refine gQ 10 rfl rfl hF hS rfl (ef_storeW ty31 2 rfl rfl rfl rfl bQ (oc_cons (row_one (hS.own _ (List.mem_of_getElem? (i := 1) rfl)).1) (oc_cons (row_one (hS.own _ (List.mem_of_getElem? (i := 0) rfl)).1) oc_nil)) bQ) ?_
        clear hF hS; rintro _ _ _ a w ⟨rfl, rfl, rfl⟩ hF hS
        refine ⟨⟨iQ, iQ, iQ, iQ, iQ, trivial⟩, ?_⟩
        exact goW_done kQ (j5_mk v_11_0 v_11_3 v_11_4 v_11_7 b_11_9 (trivial) (hF.sub (L' := [(4, _), (5, _), (8, _), (10, _), (11, _), (12, _)]) ⟨rfl, rfl, rfl, rfl, rfl, rfl, trivial⟩) ((hS.perm (.cons _ (.swap _ _ _))).perm (.swap _ _ _)))
      ·refine stepW_ef _ rfl rfl hF hS rfl (ef_bslice0 ty22 ty3) ?_
       clear hF hS; rintro v_11_4 _ _ a w ⟨rfl, rfl⟩ hF hS
       refine ⟨⟨.inr (hS.k1 (zQ.k.n.n.n)), .inr hS.k0, .inr (hS.k1 (zQ.k.n.n.n)), .inr hS.k0, trivial⟩, ?_⟩
       refine gQ 0 rfl rfl hF hS rfl (ef_bslice0 ty28 ty66) ?_
       clear hF hS; rintro v_11_0 _ _ a w ⟨rfl, rfl⟩ hF hS
       refine ⟨⟨.inr (hS.k1 (zQ.k.n.n.n.n)), .inr hS.k0, .inr (hS.k1 (zQ.k.n.n.n.n)), .inr hS.k0, trivial⟩, ?_⟩
       refine gQ 3 rfl rfl hF hS rfl (ef_append ty28 ty66 0 rfl rfl rfl (src_slA ty28 hk zin0 (by decide)) bQ rfl (by decide)) ?_
       clear hF hS; rintro v_11_3 _ _ a w ⟨rfl, rfl⟩ hF hS
       refine ⟨⟨.inr (hS.k1 (zQ.k.n.n.n.n)), .inr hS.k0, iQ, iQ, trivial⟩, ?_⟩
       refine gQ 7 rfl rfl hF hS rfl (ef_append ty22 ty3 1 rfl rfl rfl (src_slV ty22 hm zin0) bQ rfl (by decide)) ?_
       clear hF hS; rintro v_11_7 _ _ a w ⟨rfl, rfl⟩ hF hS
       refine ⟨⟨iQ, iQ, iQ, iQ, trivial⟩, ?_⟩
       refine goW_take 8 _ rfl kQ rfl hF (hS.keep sQ (zQ.k.k)) (q_buildS1 ty31 2 kQ rfl rfl (oc_cons (row_one (hS.own _ (List.mem_of_getElem? (i := 0) rfl)).1) (oc_cons (row_one (hS.own _ (List.mem_of_getElem? (i := 1) rfl)).1) oc_nil)) rfl rfl) ?_
       clear hF; intro a hF
       refine gQ 10 rfl rfl hF hS rfl (ef_storeW ty31 2 rfl rfl rfl rfl bQ (oc_cons (row_one (hS.own _ (List.mem_of_getElem? (i := 0) rfl)).1) (oc_cons (row_one (hS.own _ (List.mem_of_getElem? (i := 1) rfl)).1) oc_nil)) bQ) ?_
       clear hF hS; rintro _ _ _ a w ⟨rfl, rfl, rfl⟩ hF hS
       refine ⟨⟨iQ, iQ, iQ, iQ, iQ, trivial⟩, ?_⟩
       exact goW_done kQ (j5_mk v_11_0 v_11_3 v_11_4 v_11_7 b_11_9 (trivial) (hF.sub (L' := [(4, _), (5, _), (8, _), (10, _), (11, _), (12, _)]) ⟨rfl, rfl, rfl, rfl, rfl, rfl, trivial⟩) (((hS.perm (.cons _ (.swap _ _ _))).perm (.swap _ _ _)).perm (.cons _ (.swap _ _ _))))
    rintro a w ⟨v_11_0, v_11_3, v_11_4, v_11_7, b_11_9, -, hF, hS⟩
    (try dsimp only at hF); (try dsimp only at hS)
    replace hS := hS.perm (.swap _ _ _)
    replace hS := hS.rowEq (Nat.zero_add _) (List.nil_append _)
    replace hS : St _ [] [_, _, _, _, _, _] _ := hS
    refine hK14 _ _ ?_
    clear hK14
    refine wp_seq_k ?_; intro K15 hK15
    refine wp_seq_k ?_; intro K16 hK16
    refine reg hF hS (sq rfl (q_assign rfl) <|
      sq_end) ?_
    clear hF hS; intro a w hF hS
    refine hK16 _ _ ?_
    clear hK16
    refine wp_block ?_
    obtain ⟨hs0, hhs0, hS⟩ : ∃ h, h = _ ∧ St _ _ h _ := ⟨_, rfl, hS⟩
    refine wp_loopx (γ := Int) (0) (fun (i : Int) => [(13, vi i)]) [(4, _), (5, _), (8, _), (10, _), (11, _), (12, _)] (fun (i : Int) => (hs0.set 0 (.row v_11_7 3 1 ms.length ((Hu.tlm xb ks ms (Gu.ixF (fun y => decide (s = y)) xs) (Hu.markOf bad) i.toNat).map vi)))) (fun (i : Int) => 0 ≤ i ∧ i ≤ xs.length) (fun (i : Int) => (xs.length - i).toNat) (hF.sub ⟨rfl, rfl, rfl, rfl, rfl, rfl, rfl, trivial⟩) (by subst hhs0; (try dsimp only); rw [show (0 : Int).toNat = 0 from rfl, Hu.tlm_0]; exact hS) (by exact ⟨Int.le_refl _, by omega⟩) ?_
    clear hF hS; rintro i a w hfact hF hS
    subst hhs0; (try dsimp only at hfact); (try dsimp only at hF); (try dsimp only at hS)
    obtain ⟨hi0, hi1⟩ := hfact
    replace hS : St _ [] [_, _, _, _, _, _] _ := hS
    refine wp_seq_k ?_; intro K17 hK17
    refine wp_seq_k ?_; intro K18 hK18
    refine reg hF hS (sq rfl (q_move rfl) <|
      sq rfl (q_fieldAddr ty26 rfl rfl (s' := 0) kQ) <|
      sq rfl (q_ld_blk1 ty22 5 rfl rfl rfl rfl) <|
      sq rfl (q_len_sl ty22 hxs rfl) <|
      sq rfl (q_lti rfl rfl) <|
      sq_end) ?_
    clear hF hS; intro a w hF hS
    refine hK18 _ _ ?_
    clear hK18
    refine wp_ifd hF rfl (fun hc5 => ?_) (fun hc5 => ?_)
    ·have hki := hk16 i.toNat (by omega)
     have hka := hk16 (Gu.ixF (fun y => decide (s = y)) xs).toNat (by omega)
     refine wp_skip ?_
     refine hK17 _ _ ?_
     clear hK17
     refine wp_seq_k ?_; intro K19 hK19
     refine wp_block ?_
     refine wp_seq_k ?_; intro K20 hK20
     refine regq mixed kQ hS ?_
     refine wpq_seg hF (sq rfl (q_fieldAddr ty26 rfl rfl (s' := 0) kQ) <|
       sq rfl (q_ld_blk1 ty24 5 rfl rfl rfl rfl) <|
       sq rfl (q_move rfl) <|
       sq rfl (q_idx_sl ty24 ty4 hxb rfl rfl (by omega)) <|
       sq rfl (q_ld_T ty4 hxb zin0 rfl rfl (by omega)) <|
       sq rfl (q_move rfl) <|
       sq_end) ?_
     clear hF; intro a hF
     refine wpq_and 5 72 11 hF rfl rfl rfl rfl rfl (fun hg => have hg := hg; sq_go 72 rfl rfl rfl (q_fieldAddr ty31 rfl rfl (s' := 0) kQ) <|
       sq_go 72 rfl rfl rfl (q_ld_blk1 ty28 4 rfl rfl rfl rfl) <|
       sq_go 72 rfl rfl rfl (q_move rfl) <|
       sq_go 72 rfl rfl rfl (q_idx_sl ty28 ty66 hk rfl rfl (by omega)) <|
       sq_go 72 rfl rfl rfl (q_ld_AB ty66 hk zin0 rfl rfl (by decide) (by omega)) <|
       sq_go 72 rfl rfl rfl (q_fieldAddr ty31 rfl rfl (s' := 0) kQ) <|
       sq_go 72 rfl rfl rfl (q_ld_blk1 ty28 4 rfl rfl rfl rfl) <|
       sq_go 72 rfl rfl rfl (q_move rfl) <|
       sq_go 72 rfl rfl rfl (q_idx_sl ty28 ty66 hk rfl rfl (by omega)) <|
       sq_go 72 rfl rfl rfl (q_ld_AB ty66 hk zin0 rfl rfl (by decide) (by omega)) <|
       sq_go 72 rfl rfl rfl (q_eqAB ty66 ty5 kQ rfl rfl bQ bQ) <|
       sq_end) rfl rfl ?_
     clear hF; intro a hF
     refine wpq_nil ?_
     clear hS; intro w hS
     refine hK20 _ _ ?_
     clear hK20
     refine wp_if hF rfl (fun hc6 => ?_) (fun hc6 => ?_)
     ·(try simp only [Bool.or_eq_true, Bool.and_eq_true, Bool.or_eq_false_iff, Bool.and_eq_false_iff, decide_eq_true_eq, decide_eq_false_iff_not, Bool.not_eq_true', Bool.not_eq_false'] at hc6)
      refine regl ?_
      refine wpl_sq hF hS (sq rfl (q_fieldAddr ty31 rfl rfl (s' := 0) kQ) <|
        sq rfl (q_ld_blk1 ty22 1 rfl rfl rfl rfl) <|
        sq rfl (q_move rfl) <|
        sq rfl (q_move rfl) <|
        sq rfl (q_idx_row ty22 ty3 0 rfl rfl rfl (by omega)) <|
        sq_end) ?_
      clear hF hS; intro a w hF hS
      refine wpl_ef hF hS rfl (ef_st_row ty3 0 rfl rfl rfl (by omega) rfl) ?_
      clear hF hS; rintro _ _ _ a w ⟨rfl, rfl, rfl⟩ hF hS
      replace hS : St _ [] [_, _, _, _, _, _] _ := hS
      refine wpList_nil ?_
      refine hK19 _ _ ?_
      clear hK19
      refine reg hF hS (sq rfl (q_move rfl) <|
        sq rfl (q_addi rfl rfl (by omega)) <|
        sq rfl (q_assign rfl) <|
        sq_end) ?_
      clear hF hS; intro a w hF hS
      refine ⟨(i + 1), ?_, ?_, hF.sub ⟨rfl, rfl, rfl, rfl, rfl, rfl, rfl, trivial⟩, ?_⟩
      ·(try dsimp only); omega
      ·(try dsimp only); omega
      ·(try dsimp only); rw [Hu.tlm_t ⟨hi0, by omega⟩ hc6, List.map_set]; exact hS
     ·(try simp only [Bool.or_eq_true, Bool.and_eq_true, Bool.or_eq_false_iff, Bool.and_eq_false_iff, decide_eq_true_eq, decide_eq_false_iff_not, Bool.not_eq_true', Bool.not_eq_false'] at hc6)
      refine wp_skip ?_
      refine hK19 _ _ ?_
      clear hK19
      refine reg hF hS (sq rfl (q_move rfl) <|
        sq rfl (q_addi rfl rfl (by omega)) <|
        sq rfl (q_assign rfl) <|
        sq_end) ?_
      clear hF hS; intro a w hF hS
      refine ⟨(i + 1), ?_, ?_, hF.sub ⟨rfl, rfl, rfl, rfl, rfl, rfl, rfl, trivial⟩, ?_⟩
      ·(try dsimp only); omega
      ·(try dsimp only); omega
      ·(try dsimp only); rw [Hu.tlm_f hi0 hc6]; exact hS
    ·obtain rfl : i = xs.length := by omega
     rw [Int.toNat_natCast] at hS
     refine wp_exit ?_
     refine hK15 _ _ ?_
     clear hK15
     refine wp_seq_k ?_; intro K21 hK21
     refine regl ?_
     refine wpl_sq hF hS (sq rfl (q_ld_blkW ty31 1 rfl rfl bQ rfl) <|
       sq_end) ?_
     clear hF hS; intro a w hF hS
     refine wpl_ef hF hS rfl (ef_storeW ty31 3 rfl rfl rfl rfl bQ (oc_cons (row_one (hS.own _ (List.mem_of_getElem? (i := 2) rfl)).1) (oc_cons (row_one (hS.own _ (List.mem_of_getElem? (i := 0) rfl)).1) oc_nil)) bQ) ?_
     clear hF hS; rintro _ _ _ a w ⟨rfl, rfl, rfl⟩ hF hS
     replace hS : St _ [] [_, _, _, _, _, _] _ := hS
     refine wpl_sq hF hS (sq rfl (q_assign rfl) <|
       sq_end) ?_
     clear hF hS; intro a w hF hS
     refine wpList_nil ?_
     refine hK21 _ _ ?_
     clear hK21
     refine wp_ret ?_
     replace hS := hS.perm (.cons _ (.swap _ _ _))
     replace hS := hS.perm (.swap _ _ _)
     obtain ⟨zk, hzk, hS⟩ := St.freezeA (m := 16) (l := ks) (hS.rowEq (by first | rfl | (simp; done)) (by first | rfl | (simp; done))) rfl (by omega) (sl_A hk)
     replace hS : St _ [_] [_, _, _, _, _] _ := hS
     obtain ⟨zm, hzm, hS⟩ := St.freezeV (h0 := fun _ => rfl) (f := vi) (p := fun x => -9223372036854775808 ≤ x ∧ x ≤ 9223372036854775807) (xs := (Hu.tlm xb ks ms (Gu.ixF (fun y => decide (s = y)) xs) (Hu.markOf bad) xs.length)) (hS.rowEq (m' := List.length ((Hu.tlm xb ks ms (Gu.ixF (fun y => decide (s = y)) xs) (Hu.markOf bad) xs.length))) (cs' := List.map vi ((Hu.tlm xb ks ms (Gu.ixF (fun y => decide (s = y)) xs) (Hu.markOf bad) xs.length))) (Hu.tlm_len _).symm (by first | rfl | (simp [vi]; done))) rfl (by first | omega | (rw [Hu.tlm_len]; omega) | (simp; omega)) (Hu.tlm_rng (sl_rng hm) hmk _)
     obtain ⟨zu, hzu, hS⟩ := hS.union
     exact fn_ret (rs := [.cell 8 31, .tmp 9]) rfl hF hS (vs := [_, _]) ⟨⟨_, _, _, _, _, _, _, rfl, List.mem_of_getElem? (i := 1) rfl, ty31, .inl ⟨rfl, bQ, rfl⟩⟩, rfl, trivial⟩ (zs' := [zu]) (hs' := []) (List.singleton_sublist.2 (by simp)) zQ (kn_of (Hu.telK_0 hft (Hu.not_or hc2) (by omega)) ⟨_, _, zu, rfl, Sl.mono (hzu _ (by simp)) hzk, Sl.mono (hzu _ (by simp)) hzm, rfl, rfl⟩)
end Go.Proofs.Ytefjpigmgmbghaa
