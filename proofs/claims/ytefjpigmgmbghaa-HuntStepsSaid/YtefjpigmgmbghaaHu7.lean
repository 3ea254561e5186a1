/- A text of a proof over this seat: walks over the program's functions and the plain laws that they need. -/
import Derived.Test.YtefjpigmgmbghaaHu6
import Derived.Test.YtefjpigmgmbghaaHpA
import Derived.Test.YtefjpigmgmbghaaFwD
import Derived.Test.YtefjpigmgmbghaaGuA
import Derived.Test.YtefjpigmgmbghaaFwB
set_option linter.all false
namespace Go.Proofs.Ytefjpigmgmbghaa
open Go.Fw
theorem fn51 : FnOk Try.prog 51 := ⟨_, Try.func51, rfl, by kernel_rfl⟩
theorem fn56 : FnOk Try.prog 56 := ⟨_, Try.func56, rfl, by kernel_rfl⟩

/-- What is known, and the error. -/
def KnR (x : Hu.KN) (r : Value) (zs : List PH) (hs : List Res) : Prop :=
 ∃ (kv mv : Value) (z : PH), r = .tuple [.agg [kv, mv].toArray, vi x.2.2].toArray ∧ Sl (encA 16) z kv x.1 ∧ Sl encI z mv x.2.1 ∧ zs = [z] ∧ hs = []
theorem kn_of {x y : Hu.KN} {r : Value} {zs : List PH} {hs : List Res} (e : y = x) (h : KnR x r zs hs) : KnR y r zs hs := e ▸ h

set_option maxRecDepth 4000 in
set_option maxHeartbeats 2000000 in
theorem clonek_ct (v : Value) (ks : List (List UInt8)) (hl : ks.length < 1048576) (w : World) (hk : Sl (encA 16) (ph w) v ks) : Ct Try.prog 51 [v] w (SlR (encA 16) ks) := by
 refine fn_enter Try.func51 rfl Try.ntmps51 (Nat.le_of_ble_eq_true rfl) fun a hF hS => ?_
 have hkl := hk.1
 refine wp_seq_k ?_; intro K1 hK1
 refine reg hF hS (sq rfl (q_assign rfl) <|
   sq_end) ?_
 clear hF hS; intro a w hF hS
 refine hK1 _ _ ?_
 clear hK1
 refine wp_seq_k ?_; intro K2 hK2
 refine wp_seq_k ?_; intro K3 hK3
 refine reg hF hS (sq rfl (q_move rfl) <|
   sq rfl (q_eqnil ty28 hk rfl rfl) <|
   sq_end) ?_
 clear hF hS; intro a w hF hS
 refine hK3 _ _ ?_
 clear hK3
 refine wp_if hF rfl (fun hc1 => ?_) (fun hc1 => ?_)
 ·refine wp_seq_k ?_; intro K4 hK4
  refine reg hF hS (sq rfl (q_assign rfl) <|
    sq_end) ?_
  clear hF hS; intro a w hF hS
  refine hK4 _ _ ?_
  clear hK4
  refine wp_ret ?_
  replace hS := hS.zone00
  have hk0 := nilS_nil hk hc1
  subst hk0
  exact fn_ret (rs := [.tmp 2]) rfl hF hS (vs := [_]) ⟨rfl, trivial⟩ (zs' := [fun _ => none]) (hs' := []) (List.singleton_sublist.2 (by simp)) zQ ⟨_, sl_nil, rfl, rfl⟩
 ·refine wp_skip ?_
  refine hK2 _ _ ?_
  clear hK2
  refine wp_seq_k ?_; intro K5 hK5
  refine regl ?_
  refine wpl_ef hF hS rfl (ef_bslice0 ty28 ty66) ?_
  clear hF hS; rintro v1 _ _ a w ⟨rfl, rfl⟩ hF hS
  replace hS : St _ [] [_] _ := hS
  refine wpl_sq hF hS (sq rfl (q_move rfl) <|
    sq_end) ?_
  clear hF hS; intro a w hF hS
  refine wpl_ef hF hS rfl (ef_append ty28 ty66 0 rfl rfl rfl (src_slA ty28 hk zin0 (by decide)) bQ rfl (by decide)) ?_
  clear hF hS; rintro v3 _ _ a w ⟨rfl, rfl⟩ hF hS
  replace hS : St _ [] [_] _ := hS
  refine wpl_sq hF hS (sq rfl (q_assign rfl) <|
    sq_end) ?_
  clear hF hS; intro a w hF hS
  refine wpList_nil ?_
  refine hK5 _ _ ?_
  clear hK5
  refine wp_ret ?_
  obtain ⟨zr, hzr, hS⟩ := St.freezeA (m := 16) (l := ks) (hS.rowEq (Nat.zero_add _) (List.nil_append _)) rfl (by omega) (sl_A hk)
  exact fn_ret (rs := [.tmp 2]) rfl hF hS (vs := [_]) ⟨rfl, trivial⟩ (zs' := [zr]) (hs' := []) (List.singleton_sublist.2 (by simp)) zQ ⟨zr, hzr, rfl, rfl⟩

set_option maxRecDepth 4000 in
set_option maxHeartbeats 2000000 in
theorem clone_ct (u : Value) (xs : List Int) (hl : xs.length < 1048576) (w : World) (hb : Sl encI (ph w) u xs) : Ct Try.prog 56 [u] w (fun v zs hs => zs = [] ∧ hs = [.row v 3 1 xs.length (xs.map vi)]) := by
 refine fn_enter Try.func56 rfl Try.ntmps56 (Nat.le_of_ble_eq_true rfl) fun a hF hS => ?_
 have hbl := hb.1
 refine wp_seq_k ?_; intro K1 hK1
 refine reg hF hS (sq rfl (q_assign rfl) <|
   sq_end) ?_
 clear hF hS; intro a w hF hS
 refine hK1 _ _ ?_
 clear hK1
 refine wp_seq_k ?_; intro K2 hK2
 refine wp_seq_k ?_; intro K3 hK3
 refine reg hF hS (sq rfl (q_move rfl) <|
   sq rfl (q_eqnil ty22 hb rfl rfl) <|
   sq_end) ?_
 clear hF hS; intro a w hF hS
 refine hK3 _ _ ?_
 clear hK3
 refine wp_if hF rfl (fun hc1 => ?_) (fun hc1 => ?_)
 ·obtain rfl := nilS_nil hb hc1
  refine wp_seq_k ?_; intro K4 hK4
  refine reg hF hS (sq rfl (q_assign rfl) <|
    sq_end) ?_
  clear hF hS; intro a w hF hS
  replace hS := hS.nilRow 3 1
  refine hK4 _ _ ?_
  clear hK4
  refine wp_ret ?_
  exact fn_ret (rs := [.tmp 2]) rfl hF hS (vs := [_]) ⟨rfl, trivial⟩ zQ sQ ⟨rfl, rfl⟩
 ·refine wp_skip ?_
  refine hK2 _ _ ?_
  clear hK2
  refine wp_seq_k ?_; intro K5 hK5
  refine regl ?_
  refine wpl_ef hF hS rfl (ef_bslice0 ty22 ty3) ?_
  clear hF hS; rintro v1 _ _ a w ⟨rfl, rfl⟩ hF hS
  replace hS : St _ [] [_] _ := hS
  refine wpl_sq hF hS (sq rfl (q_move rfl) <|
    sq_end) ?_
  clear hF hS; intro a w hF hS
  refine wpl_ef hF hS rfl (ef_append ty22 ty3 0 rfl rfl rfl (src_slV ty22 hb zin0) bQ rfl (by decide)) ?_
  clear hF hS; rintro v3 _ _ a w ⟨rfl, rfl⟩ hF hS
  replace hS : St _ [] [_] _ := hS
  refine wpl_sq hF hS (sq rfl (q_assign rfl) <|
    sq_end) ?_
  clear hF hS; intro a w hF hS
  refine wpList_nil ?_
  refine hK5 _ _ ?_
  clear hK5
  refine wp_ret ?_
  exact fn_ret (rs := [.tmp 2]) rfl hF hS (vs := [_]) ⟨rfl, trivial⟩ zQ sQ ⟨rfl, by simp⟩

set_option maxRecDepth 4000 in
set_option maxHeartbeats 2000000 in
theorem new_ct (xN xS xB : Value) (xs : List Int) (xb : List Bool) (kV : Value) (ks : List (List UInt8)) (hl : xs.length < 1048576) (w : World) (hxn : xN.oneCell' = true) (hxs : Sl encI (ph w) xS xs) (hxb : Sl encT (ph w) xB xb) (hk : Sl (encA 16) (ph w) kV ks) : Ct Try.prog 16 [.agg [xN, xS, xB].toArray, kV] w (KnR (Hu.newK xs xb ks)) := by
 refine fn_enter Try.func16 rfl Try.ntmps16 (Nat.le_of_ble_eq_true rfl) fun a hF hS => ?_
 have hsl := hxs.1
 have hkl := hk.1
 refine wp_seq_k ?_; intro K1 hK1
 refine regl ?_
 refine wpl_ef hF hS rfl (ef_boxA rfl) ?_
 clear hF hS; rintro _ _ _ a w ⟨b1, rfl, rfl, rfl⟩ hF hS
 refine wpl_ef hF hS rfl (ef_allocA ty38) ?_
 clear hF hS; rintro _ _ _ a w ⟨b2, rfl, rfl, rfl⟩ hF hS
 refine wpl_sq hF hS (sq rfl (q_assign rfl) <|
   sq_end) ?_
 clear hF hS; intro a w hF hS
 refine wpList_nil ?_
 refine hK1 _ _ ?_
 clear hK1
 refine wp_seq_k ?_; intro K2 hK2
 refine wp_seq_k ?_; intro K3 hK3
 refine regl ?_
 refine wpl_sq hF hS (sq rfl (q_ld_blkW ty42 1 rfl rfl bQ rfl) <|
   sq rfl (q_call fn50 rfl (fun w hS => ordered_ct _ _ _ _ _ w hxn (Sl.mono (hS.le zin0) hxs) (Sl.mono (hS.le zin0) hxb)) (fun _ _ _ h => h)) <|
   sq rfl (q_not rfl) <|
   sq rfl (q_move rfl) <|
   sq_end) ?_
 clear hF hS; intro a w hF hS
 refine wpl_or 3 9 6 hF hS rfl rfl rfl rfl rfl (fun hg => have hg := hg; sq_go 9 rfl rfl rfl (q_move rfl) <|
   sq_go 9 rfl rfl rfl (q_len_sl ty28 hk rfl) <|
   sq_go 9 rfl rfl rfl (q_fieldAddr ty42 rfl rfl (s' := 0) kQ) <|
   sq_go 9 rfl rfl rfl (q_ld_blk1 ty22 1 rfl rfl rfl rfl) <|
   sq_go 9 rfl rfl rfl (q_len_sl ty22 hxs rfl) <|
   sq_go 9 rfl rfl rfl (q_nei rfl rfl) <|
   sq_end) rfl rfl ?_
 clear hF hS; intro a w hF hS
 refine wpList_nil ?_
 refine hK3 _ _ ?_
 clear hK3
 refine wp_if hF rfl (fun hc1 => ?_) (fun hc1 => ?_)
 ·(try simp only [Bool.or_eq_true, Bool.and_eq_true, Bool.or_eq_false_iff, Bool.and_eq_false_iff, decide_eq_true_eq, decide_eq_false_iff_not, Bool.not_eq_true', Bool.not_eq_false'] at hc1)
  refine wp_seq_k ?_; intro K4 hK4
  refine regl ?_
  refine wpl_sq hF hS (sq rfl (q_buildP (places := [(0, 1), (1, 1)]) (cells := [.slice none 0 0, .slice none 0 0]) ty38 kQ rfl (by rfl)) <|
    sq_end) ?_
  clear hF hS; intro a w hF hS
  refine wpl_ef hF hS rfl (ef_storeW ty38 0 rfl rfl rfl rfl bQ (oc_cons rfl (oc_cons rfl oc_nil)) bQ) ?_
  clear hF hS; rintro _ _ _ a w ⟨rfl, rfl, rfl⟩ hF hS
  replace hS : St _ [] [_, _] _ := hS
  refine wpl_sq hF hS (sq rfl (q_assign rfl) <|
    sq_end) ?_
  clear hF hS; intro a w hF hS
  refine wpList_nil ?_
  refine hK4 _ _ ?_
  clear hK4
  refine wp_ret ?_
  replace hS := hS.zone00
  exact fn_ret (rs := [.cell 4 38, .tmp 5]) rfl hF hS (vs := [_, _]) ⟨⟨_, _, _, _, _, _, _, rfl, List.mem_of_getElem? (i := 0) rfl, ty38, .inl ⟨rfl, bQ, rfl⟩⟩, rfl, trivial⟩ (zs' := [fun _ => none]) (hs' := []) (List.singleton_sublist.2 (by simp)) zQ (kn_of (Hu.newK_1 hc1) ⟨_, _, _, rfl, sl_nil, sl_nil, rfl, rfl⟩)
 ·(try simp only [Bool.or_eq_true, Bool.and_eq_true, Bool.or_eq_false_iff, Bool.and_eq_false_iff, decide_eq_true_eq, decide_eq_false_iff_not, Bool.not_eq_true', Bool.not_eq_false'] at hc1)
  refine wp_skip ?_
  refine hK2 _ _ ?_
  clear hK2
  refine wp_seq_k ?_; intro K5 hK5
  revert hS; revert hF; apply regJ (J := J3 (α0 := Value) (α1 := PH) (α2 := Value) 24 _ _ _ _ _) #[false, false, false, false, false, false, false, false] 8 mixed rfl rfl
  ·intro w hF hS
   refine goW_take 0 _ rfl kQ rfl hF (hS.keep sQ zQ) (q_move rfl) ?_
   clear hF; intro a hF
   refine goW_take 2 _ rfl kQ rfl hF (hS.keep sQ zQ) (q_move rfl) ?_
   clear hF; intro a hF
   refine goW_take 3 _ rfl kQ rfl hF (hS.keep sQ zQ) (q_len_sl ty28 hk rfl) ?_
   clear hF; intro a hF
   refine goW_fork [1, 4] kQ rfl ⟨?_, ?_, trivial⟩
   ·refine stepW_ef _ rfl rfl hF hS rfl (ef_call fn51 rfl (fun w hS => clonek_ct _ _ (by first | with_reducible assumption | omega) w (Sl.mono (hS.le zin0) hk))) ?_
    clear hF hS; rintro v_3_1 _ _ a w ⟨_, _, rfl, rfl, ⟨z_3_1, hz_3_1, rfl, rfl⟩⟩ hF hS
    refine ⟨⟨.inr hS.k0, .inr hS.k0, iQ, trivial⟩, ?_⟩
    refine gQ 4 rfl rfl hF hS rfl (ef_mks ty22 ty3 rfl rfl bQ bQ rfl) ?_
    clear hF hS; rintro v_3_4 _ _ a w ⟨rfl, rfl⟩ hF hS
    refine ⟨⟨iQ, iQ, iQ, trivial⟩, ?_⟩
    refine goW_take 5 _ rfl kQ rfl hF (hS.keep sQ (zQ.k)) (q_buildS1 ty38 2 kQ rfl rfl (oc_cons (sl_one' hz_3_1) (oc_cons (row_one (hS.own _ (List.mem_of_getElem? (i := 0) rfl)).1) oc_nil)) rfl rfl) ?_
    clear hF; intro a hF
    refine gQ 6 rfl rfl hF hS rfl (ef_storeW ty38 1 rfl rfl rfl rfl bQ (oc_cons (sl_one' hz_3_1) (oc_cons (row_one (hS.own _ (List.mem_of_getElem? (i := 0) rfl)).1) oc_nil)) bQ) ?_
    clear hF hS; rintro _ _ _ a w ⟨rfl, rfl, rfl⟩ hF hS
    refine ⟨⟨iQ, iQ, iQ, iQ, trivial⟩, ?_⟩
    refine goW_take 7 _ rfl kQ rfl hF (hS.keep sQ zQ) (q_assign rfl) ?_
    clear hF; intro a hF
    exact goW_done kQ (j3_mk v_3_1 z_3_1 v_3_4 ((And.intro hz_3_1 trivial)) (hF.sub (L' := [(4, _), (5, _)]) ⟨rfl, rfl, trivial⟩) hS)
   ·refine stepW_ef _ rfl rfl hF hS rfl (ef_mks ty22 ty3 rfl rfl bQ bQ rfl) ?_
    clear hF hS; rintro v_3_4 _ _ a w ⟨rfl, rfl⟩ hF hS
    refine ⟨⟨iQ, iQ, .inr hS.k0, trivial⟩, ?_⟩
    refine gQ 1 rfl rfl hF hS rfl (ef_call fn51 rfl (fun w hS => clonek_ct _ _ (by first | with_reducible assumption | omega) w (Sl.mono (hS.le zin0) hk))) ?_
    clear hF hS; rintro v_3_1 _ _ a w ⟨_, _, rfl, rfl, ⟨z_3_1, hz_3_1, rfl, rfl⟩⟩ hF hS
    refine ⟨⟨iQ, iQ, iQ, trivial⟩, ?_⟩
    refine goW_take 5 _ rfl kQ rfl hF (hS.keep sQ (zQ.k)) (q_buildS1 ty38 2 kQ rfl rfl (oc_cons (sl_one' hz_3_1) (oc_cons (row_one (hS.own _ (List.mem_of_getElem? (i := 0) rfl)).1) oc_nil)) rfl rfl) ?_
    clear hF; intro a hF
    refine gQ 6 rfl rfl hF hS rfl (ef_storeW ty38 1 rfl rfl rfl rfl bQ (oc_cons (sl_one' hz_3_1) (oc_cons (row_one (hS.own _ (List.mem_of_getElem? (i := 0) rfl)).1) oc_nil)) bQ) ?_
    clear hF hS; rintro _ _ _ a w ⟨rfl, rfl, rfl⟩ hF hS
    refine ⟨⟨iQ, iQ, iQ, iQ, trivial⟩, ?_⟩
    refine goW_take 7 _ rfl kQ rfl hF (hS.keep sQ zQ) (q_assign rfl) ?_
    clear hF; intro a hF
    exact goW_done kQ (j3_mk v_3_1 z_3_1 v_3_4 ((And.intro hz_3_1 trivial)) (hF.sub (L' := [(4, _), (5, _)]) ⟨rfl, rfl, trivial⟩) hS)
  rintro a w ⟨v_3_1, z_3_1, v_3_4, ⟨hz_3_1, -⟩, hF, hS⟩
  (try dsimp only at hF); (try dsimp only at hS)
  refine hK5 _ _ ?_
  clear hK5
  refine wp_ret ?_
  obtain ⟨zm, hzm, hS⟩ := St.freezeV (h0 := fun _ => rfl) (f := vi) (p := fun x => -9223372036854775808 ≤ x ∧ x ≤ 9223372036854775807) (xs := (List.replicate ks.length (0 : Int))) (hS.rowEq (m' := List.length ((List.replicate ks.length (0 : Int)))) (cs' := List.map vi ((List.replicate ks.length (0 : Int)))) (by first | rfl | (simp; done) | (simp; omega)) (by first | rfl | (simp [vi]; done))) rfl (by first | omega | (rw [Hu.tlm_len]; omega) | (simp; omega)) (fun x hx => by rw [List.eq_of_mem_replicate hx]; omega)
  obtain ⟨zu, hzu, hS⟩ := hS.union
  exact fn_ret (rs := [.cell 4 38, .tmp 5]) rfl hF hS (vs := [_, _]) ⟨⟨_, _, _, _, _, _, _, rfl, List.mem_of_getElem? (i := 0) rfl, ty38, .inl ⟨rfl, bQ, rfl⟩⟩, rfl, trivial⟩ (zs' := [zu]) (hs' := []) (List.singleton_sublist.2 (by simp)) zQ (kn_of (Hu.newK_0 hc1) ⟨_, _, zu, rfl, Sl.mono (hzu _ (by simp)) hz_3_1, Sl.mono (hzu _ (by simp)) hzm, rfl, rfl⟩)

set_option maxRecDepth 4000 in
set_option maxHeartbeats 2000000 in
theorem tell_ct (xN xS xB : Value) (xs : List Int) (xb : List Bool) (kV mV : Value) (ks : List (List UInt8)) (ms : List Int) (s : Int) (bad : Bool) (hl : xs.length < 1048576) (w : World) (hxn : xN.oneCell' = true) (hxs : Sl encI (ph w) xS xs) (hxb : Sl encT (ph w) xB xb) (hk : Sl (encA 16) (ph w) kV ks) (hm : Sl encI (ph w) mV ms) : Ct Try.prog 22 [.agg [xN, xS, xB].toArray, .agg [kV, mV].toArray, vi s, .bool bad] w (KnR (Hu.telK xs xb ks ms s bad)) := by
 refine fn_enter Try.func22 rfl Try.ntmps22 (Nat.le_of_ble_eq_true rfl) fun a hF hS => ?_
 have hsl := hxs.1
 have htl := hxb.1
 have hml := hm.1
 have hkl := hk.1
 have hix := Gu.ixF_range (fun y => decide (s = y)) xs
 have hmk := Hu.markOf_rng bad
 have hk16 : ∀ j, j < ks.length → (ks.getD j []).length = 16 := fun j hj => by have := hk.rep (i := j) (x := ks[j]) (by simp [hj]); rw [List.getD_eq_getElem?_getD, List.getElem?_eq_getElem hj]; exact this.1
 refine wp_seq_k ?_; intro K1 hK1
 refine regl ?_
 refine wpl_ef hF hS rfl (ef_boxA rfl) ?_
 clear hF hS; rintro _ _ _ a w ⟨b1, rfl, rfl, rfl⟩ hF hS
 refine wpl_ef hF hS rfl (ef_boxA rfl) ?_
 clear hF hS; rintro _ _ _ a w ⟨b2, rfl, rfl, rfl⟩ hF hS
 refine wpl_ef hF hS rfl (ef_allocA ty38) ?_
 clear hF hS; rintro _ _ _ a w ⟨b3, rfl, rfl, rfl⟩ hF hS
 refine wpl_sq hF hS (sq rfl (q_assign rfl) <|
   sq_end) ?_
 clear hF hS; intro a w hF hS
 refine wpList_nil ?_
 refine hK1 _ _ ?_
 clear hK1
 refine wp_seq_k ?_; intro K2 hK2
 refine wp_seq_k ?_; intro K3 hK3
 refine reg hF hS (sq rfl (q_ld_blkW ty42 2 rfl rfl bQ rfl) <|
   sq rfl (q_ld_blkW ty38 1 rfl rfl bQ rfl) <|
   sq rfl (q_call fn54 rfl (fun w hS => fits_ct _ _ _ _ _ _ _ _ _ w hxn (Sl.mono (hS.le zin0) hxs) (Sl.mono (hS.le zin0) hxb) (Sl.mono (hS.le zin0) hk) (Sl.mono (hS.le zin0) hm)) (fun _ _ _ h => h)) <|
   sq rfl (q_not rfl) <|
   sq_end) ?_
 clear hF hS; intro a w hF hS
 refine hK3 _ _ ?_
 clear hK3
 refine wp_if hF rfl (fun hc1 => ?_) (fun hc1 => ?_)
 ·have hft : Hu.fitB xs xb ks ms = false := by simpa using hc1
  refine wp_seq_k ?_; intro K4 hK4
  refine regl ?_
  refine wpl_sq hF hS (sq rfl (q_buildP (places := [(0, 1), (1, 1)]) (cells := [.slice none 0 0, .slice none 0 0]) ty38 kQ rfl (by rfl)) <|
    sq_end) ?_
  clear hF hS; intro a w hF hS
  refine wpl_ef hF hS rfl (ef_storeW ty38 0 rfl rfl rfl rfl bQ (oc_cons rfl (oc_cons rfl oc_nil)) bQ) ?_
  clear hF hS; rintro _ _ _ a w ⟨rfl, rfl, rfl⟩ hF hS
  replace hS : St _ [] [_, _, _] _ := hS
  refine wpl_sq hF hS (sq rfl (q_assign rfl) <|
    sq_end) ?_
  clear hF hS; intro a w hF hS
  refine wpList_nil ?_
  refine hK4 _ _ ?_
  clear hK4
  refine wp_ret ?_
  replace hS := hS.zone00
  exact fn_ret (rs := [.cell 8 38, .tmp 9]) rfl hF hS (vs := [_, _]) ⟨⟨_, _, _, _, _, _, _, rfl, List.mem_of_getElem? (i := 0) rfl, ty38, .inl ⟨rfl, bQ, rfl⟩⟩, rfl, trivial⟩ (zs' := [fun _ => none]) (hs' := []) (List.singleton_sublist.2 (by simp)) zQ (kn_of (Hu.telK_1 hft) ⟨_, _, _, rfl, sl_nil, sl_nil, rfl, rfl⟩)
 ·have hft : Hu.fitB xs xb ks ms = true := by simpa using hc1
  have hfu := Hu.fit_use hft
  refine wp_skip ?_
  refine hK2 _ _ ?_
  clear hK2
  refine wp_seq_k ?_; intro K5 hK5
  refine reg hF hS (sq rfl (q_fieldAddr ty42 rfl rfl (s' := 0) kQ) <|
    sq rfl (q_ld_blk1 ty22 2 rfl rfl rfl rfl) <|
    sq rfl (q_move rfl) <|
    sq rfl (q_call fn55 rfl (fun w hS => ix_ct _ _ _ w (Sl.mono (hS.le zin0) hxs)) (fun _ _ _ h => h)) <|
    sq rfl (q_assign rfl) <|
    sq_end) ?_
  clear hF hS; intro a w hF hS
  refine hK5 _ _ ?_
  clear hK5
  refine wp_seq_k ?_; intro K6 hK6
  refine wp_seq_k ?_; intro K7 hK7
  refine regl ?_
  refine wpl_sq hF hS (sq rfl (q_move rfl) <|
    sq rfl (q_lti rfl rfl) <|
    sq rfl (q_move rfl) <|
    sq_end) ?_
  clear hF hS; intro a w hF hS
  refine wpl_or 2 25 6 hF hS rfl rfl rfl rfl rfl (fun hg => have hg := (by first | exact of_decide_eq_false hg | exact hg); sq_go 25 rfl rfl rfl (q_fieldAddr ty42 rfl rfl (s' := 0) kQ) <|
    sq_go 25 rfl rfl rfl (q_ld_blk1 ty24 2 rfl rfl rfl rfl) <|
    sq_go 25 rfl rfl rfl (q_move rfl) <|
    sq_go 25 rfl rfl rfl (q_idx_sl ty24 ty4 hxb rfl rfl (by omega)) <|
    sq_go 25 rfl rfl rfl (q_ld_T ty4 hxb zin0 rfl rfl (by omega)) <|
    sq_go 25 rfl rfl rfl (q_not rfl) <|
    sq_end) rfl rfl ?_
  clear hF hS; intro a w hF hS
  refine wpList_nil ?_
  refine hK7 _ _ ?_
  clear hK7
  refine wp_if hF rfl (fun hc2 => ?_) (fun hc2 => ?_)
  ·(try simp only [Bool.or_eq_true, Bool.and_eq_true, Bool.or_eq_false_iff, Bool.and_eq_false_iff, decide_eq_true_eq, decide_eq_false_iff_not, Bool.not_eq_true', Bool.not_eq_false'] at hc2)
   refine wp_seq_k ?_; intro K8 hK8
   refine regl ?_
   refine wpl_sq hF hS (sq rfl (q_buildP (places := [(0, 1), (1, 1)]) (cells := [.slice none 0 0, .slice none 0 0]) ty38 kQ rfl (by rfl)) <|
     sq_end) ?_
   clear hF hS; intro a w hF hS
   refine wpl_ef hF hS rfl (ef_storeW ty38 0 rfl rfl rfl rfl bQ (oc_cons rfl (oc_cons rfl oc_nil)) bQ) ?_
   clear hF hS; rintro _ _ _ a w ⟨rfl, rfl, rfl⟩ hF hS
   replace hS : St _ [] [_, _, _] _ := hS
   refine wpl_sq hF hS (sq rfl (q_assign rfl) <|
     sq_end) ?_
   clear hF hS; intro a w hF hS
   refine wpList_nil ?_
   refine hK8 _ _ ?_
   clear hK8
   refine wp_ret ?_
   replace hS := hS.zone00
   exact fn_ret (rs := [.cell 8 38, .tmp 9]) rfl hF hS (vs := [_, _]) ⟨⟨_, _, _, _, _, _, _, rfl, List.mem_of_getElem? (i := 0) rfl, ty38, .inl ⟨rfl, bQ, rfl⟩⟩, rfl, trivial⟩ (zs' := [fun _ => none]) (hs' := []) (List.singleton_sublist.2 (by simp)) zQ (kn_of (Hu.telK_6 hft (by simpa using hc2)) ⟨_, _, _, rfl, sl_nil, sl_nil, rfl, rfl⟩)
  ·(try simp only [Bool.or_eq_true, Bool.and_eq_true, Bool.or_eq_false_iff, Bool.and_eq_false_iff, decide_eq_true_eq, decide_eq_false_iff_not, Bool.not_eq_true', Bool.not_eq_false'] at hc2)
   refine wp_skip ?_
   refine hK6 _ _ ?_
   clear hK6
   refine wp_seq_k ?_; intro K9 hK9
   refine reg hF hS (sq rfl (q_assign rfl) <|
     sq_end) ?_
   clear hF hS; intro a w hF hS
   refine hK9 _ _ ?_
   clear hK9
   obtain ⟨hs0, hhs0, hS⟩ : ∃ h, h = _ ∧ St _ _ h _ := ⟨_, rfl, hS⟩
   refine wp_cutx (γ := Int) (fun (mk9 : Int) => [(11, vi mk9)]) [(4, _), (5, _), (8, _), (10, _)] (fun (mk9 : Int) => hs0) (fun (mk9 : Int) => mk9 = Hu.markOf bad) (hF.sub ⟨rfl, rfl, rfl, rfl, trivial⟩) hS ?_ ?_
   ·subst hhs0
    refine wp_seq_k ?_; intro K10 hK10
    refine reg hF hS (sq rfl (q_move rfl) <|
      sq_end) ?_
    clear hF hS; intro a w hF hS
    refine hK10 _ _ ?_
    clear hK10
    refine wp_if hF rfl (fun hc3 => ?_) (fun hc3 => ?_)
    ·have hbd : Hu.markOf bad = 2 := by unfold Hu.markOf; rw [if_pos hc3]
     refine reg hF hS (sq rfl (q_assign rfl) <|
       sq_end) ?_
     clear hF hS; intro a w hF hS
     refine ⟨(2), ?_, hF.sub ⟨rfl, rfl, rfl, rfl, rfl, trivial⟩, ?_⟩
     ·exact hbd.symm
     ·exact hS
    ·have hbd : Hu.markOf bad = 1 := by unfold Hu.markOf; rw [if_neg (by rw [hc3]; decide)]
     refine wp_skip ?_
     refine ⟨(1), ?_, hF.sub ⟨rfl, rfl, rfl, rfl, rfl, trivial⟩, ?_⟩
     ·exact hbd.symm
     ·exact hS
   clear hF hS; rintro mk9 a w hfact hF hS
   subst hhs0; (try dsimp only at hfact); (try dsimp only at hF); (try dsimp only at hS)
   have hmk9 := hfact
   replace hS : St _ [] [_, _, _] _ := hS
   subst hmk9
   refine wp_seq_k ?_; intro K11 hK11
   refine wp_seq_k ?_; intro K12 hK12
   refine regl ?_
   refine wpl_sq hF hS (sq rfl (q_fieldAddr ty38 rfl rfl (s' := 0) kQ) <|
     sq rfl (q_ld_blk1 ty22 1 rfl rfl rfl rfl) <|
     sq rfl (q_move rfl) <|
     sq rfl (q_idx_sl ty22 ty3 hm rfl rfl (by omega)) <|
     sq rfl (q_ld_I ty3 hm zin0 rfl rfl (by omega)) <|
     sq rfl (q_nei rfl rfl) <|
     sq rfl (q_move rfl) <|
     sq_end) ?_
   clear hF hS; intro a w hF hS
   refine wpl_and 6 41 7 hF hS rfl rfl rfl rfl rfl (fun hg => have hg := (nd_true hg); sq_go 41 rfl rfl rfl (q_fieldAddr ty38 rfl rfl (s' := 0) kQ) <|
     sq_go 41 rfl rfl rfl (q_ld_blk1 ty22 1 rfl rfl rfl rfl) <|
     sq_go 41 rfl rfl rfl (q_move rfl) <|
     sq_go 41 rfl rfl rfl (q_idx_sl ty22 ty3 hm rfl rfl (by omega)) <|
     sq_go 41 rfl rfl rfl (q_ld_I ty3 hm zin0 rfl rfl (by omega)) <|
     sq_go 41 rfl rfl rfl (q_move rfl) <|
     sq_go 41 rfl rfl rfl (q_nei rfl rfl) <|
     sq_end) rfl rfl ?_
   clear hF hS; intro a w hF hS
   refine wpList_nil ?_
   refine hK12 _ _ ?_
   clear hK12
   refine wp_if hF rfl (fun hc4 => ?_) (fun hc4 => ?_)
   ·(try simp only [Bool.or_eq_true, Bool.and_eq_true, Bool.or_eq_false_iff, Bool.and_eq_false_iff, decide_eq_true_eq, decide_eq_false_iff_not, Bool.not_eq_true', Bool.not_eq_false'] at hc4)
    refine wp_seq_k ?_; intro K13 hK13
    refine regl ?_
    refine wpl_sq hF hS (sq rfl (q_buildP (places := [(0, 1), (1, 1)]) (cells := [.slice none 0 0, .slice none 0 0]) ty38 kQ rfl (by rfl)) <|
      sq_end) ?_
    clear hF hS; intro a w hF hS
    refine wpl_ef hF hS rfl (ef_storeW ty38 0 rfl rfl rfl rfl bQ (oc_cons rfl (oc_cons rfl oc_nil)) bQ) ?_
    clear hF hS; rintro _ _ _ a w ⟨rfl, rfl, rfl⟩ hF hS
    replace hS : St _ [] [_, _, _] _ := hS
    refine wpl_sq hF hS (sq rfl (q_assign rfl) <|
      sq_end) ?_
    clear hF hS; intro a w hF hS
    refine wpList_nil ?_
    refine hK13 _ _ ?_
    clear hK13
    refine wp_ret ?_
    replace hS := hS.zone00
    exact fn_ret (rs := [.cell 8 38, .tmp 9]) rfl hF hS (vs := [_, _]) ⟨⟨_, _, _, _, _, _, _, rfl, List.mem_of_getElem? (i := 0) rfl, ty38, .inl ⟨rfl, bQ, rfl⟩⟩, rfl, trivial⟩ (zs' := [fun _ => none]) (hs' := []) (List.singleton_sublist.2 (by simp)) zQ (kn_of (Hu.telK_14 hft (by simpa using hc2) (by omega)) ⟨_, _, _, rfl, sl_nil, sl_nil, rfl, rfl⟩)
   ·(try simp only [Bool.or_eq_true, Bool.and_eq_true, Bool.or_eq_false_iff, Bool.and_eq_false_iff, decide_eq_true_eq, decide_eq_false_iff_not, Bool.not_eq_true', Bool.not_eq_false'] at hc4)
    refine wp_skip ?_
    refine hK11 _ _ ?_
    clear hK11
    refine wp_seq_k ?_; intro K14 hK14
    revert hS; revert hF; apply regJ (J := J4 (α0 := Value) (α1 := PH) (α2 := Value) (α3 := Nat) 89 _ _ _ _ _) #[false, false, false, false, false, false, false, false, false] 9 mixed rfl rfl
    ·intro w hF hS
     refine goW_take 0 _ rfl kQ rfl hF (hS.keep sQ zQ) (q_fieldAddr ty38 rfl rfl (s' := 0) kQ) ?_
     clear hF; intro a hF
     refine goW_take 1 _ rfl kQ rfl hF (hS.keep sQ (zQ.k.n)) (q_ld_blk1 ty28 0 rfl rfl rfl rfl) ?_
     clear hF; intro a hF
     refine goW_take 3 _ rfl kQ rfl hF (hS.keep sQ zQ) (q_fieldAddr ty38 rfl rfl (s' := 0) kQ) ?_
     clear hF; intro a hF
     refine goW_take 4 _ rfl kQ rfl hF (hS.keep sQ (zQ.k.n)) (q_ld_blk1 ty22 0 rfl rfl rfl rfl) ?_
     clear hF; intro a hF
     refine goW_fork [2, 7] kQ rfl ⟨?_, ?_, trivial⟩
     ·refine stepW_ef _ rfl rfl hF hS rfl (ef_call fn51 rfl (fun w hS => clonek_ct _ _ (by first | with_reducible assumption | omega) w (Sl.mono (hS.le zin0) hk))) ?_
      clear hF hS; rintro v_11_2 _ _ a w ⟨_, _, rfl, rfl, ⟨z_11_2, hz_11_2, rfl, rfl⟩⟩ hF hS
      refine ⟨⟨.inr (hS.k1 (zQ.k.n)), .inr hS.k0, iQ, iQ, trivial⟩, ?_⟩
      refine goW_fork [5, 7] kQ rfl ⟨?_, ?_, trivial⟩
      ·refine stepW_ef _ rfl rfl hF hS rfl (ef_call fn56 rfl (fun w hS => clone_ct _ _ (by first | with_reducible assumption | omega) w (Sl.mono (hS.le zin0) hm))) ?_
       clear hF hS; rintro v_11_5 _ _ a w ⟨_, _, rfl, rfl, rfl, rfl⟩ hF hS
       refine ⟨⟨iQ, iQ, iQ, iQ, trivial⟩, ?_⟩
       refine goW_take 6 _ rfl kQ rfl hF (hS.keep sQ (zQ.k)) (q_buildS1 ty38 2 kQ rfl rfl (oc_cons (sl_one' hz_11_2) (oc_cons (row_one (hS.own _ (List.mem_of_getElem? (i := 0) rfl)).1) oc_nil)) rfl rfl) ?_
       clear hF; intro a hF
       refine gQ 7 rfl rfl hF hS rfl (ef_allocA ty38) ?_
       clear hF hS; rintro _ _ _ a w ⟨b_11_7, rfl, rfl, rfl⟩ hF hS
       refine ⟨⟨.inr (hS.keep sQ (zQ.k.n)), iQ, iQ, iQ, iQ, trivial⟩, ?_⟩
       refine gQ 8 rfl rfl hF hS rfl (ef_storeW ty38 0 rfl rfl rfl rfl bQ (oc_cons (sl_one' hz_11_2) (oc_cons (row_one (hS.own _ (List.mem_of_getElem? (i := 1) rfl)).1) oc_nil)) bQ) ?_
       clear hF hS; rintro _ _ _ a w ⟨rfl, rfl, rfl⟩ hF hS
       refine ⟨⟨iQ, iQ, iQ, iQ, iQ, trivial⟩, ?_⟩
       exact goW_done kQ (j4_mk v_11_2 z_11_2 v_11_5 b_11_7 ((And.intro hz_11_2 trivial)) (hF.sub (L' := [(4, _), (5, _), (8, _), (10, _), (11, _), (12, _)]) ⟨rfl, rfl, rfl, rfl, rfl, rfl, trivial⟩) hS)
      ·refine stepW_ef _ rfl rfl hF hS rfl (ef_allocA ty38) ?_
       clear hF hS; rintro _ _ _ a w ⟨b_11_7, rfl, rfl, rfl⟩ hF hS
       refine ⟨⟨.inr (hS.k1 (zQ.k.n.n)), .inr hS.k0, iQ, iQ, trivial⟩, ?_⟩
       refine gQ 5 rfl rfl hF hS rfl (ef_call fn56 rfl (fun w hS => clone_ct _ _ (by first | with_reducible assumption | omega) w (Sl.mono (hS.le zin0) hm))) ?_
       clear hF hS; rintro v_11_5 _ _ a w ⟨_, _, rfl, rfl, rfl, rfl⟩ hF hS
       refine ⟨⟨iQ, iQ, iQ, iQ, trivial⟩, ?_⟩
       refine goW_take 6 _ rfl kQ rfl hF (hS.keep sQ (zQ.k)) (q_buildS1 ty38 2 kQ rfl rfl (oc_cons (sl_one' hz_11_2) (oc_cons (row_one (hS.own _ (List.mem_of_getElem? (i := 0) rfl)).1) oc_nil)) rfl rfl) ?_
       clear hF; intro a hF
       refine gQ 8 rfl rfl hF hS rfl (ef_storeW ty38 1 rfl rfl rfl rfl bQ (oc_cons (sl_one' hz_11_2) (oc_cons (row_one (hS.own _ (List.mem_of_getElem? (i := 0) rfl)).1) oc_nil)) bQ) ?_
       clear hF hS; rintro _ _ _ a w ⟨rfl, rfl, rfl⟩ hF hS
       refine ⟨⟨iQ, iQ, iQ, iQ, iQ, trivial⟩, ?_⟩
       exact goW_done kQ (j4_mk v_11_2 z_11_2 v_11_5 b_11_7 ((And.intro hz_11_2 trivial)) (hF.sub (L' := [(4, _), (5, _), (8, _), (10, _), (11, _), (12, _)]) ⟨rfl, rfl, rfl, rfl, rfl, rfl, trivial⟩) (hS.perm (.swap _ _ _)))
     ·refine stepW_ef _ rfl rfl hF hS rfl (ef_allocA ty38) ?_
      clear hF hS; rintro _ _ _ a w ⟨b_11_7, rfl, rfl, rfl⟩ hF hS
      refine ⟨⟨.inr (hS.k1 (zQ.k.n.n)), .inr hS.k0, .inr (hS.k1 (zQ.k.n.n)), .inr hS.k0, trivial⟩, ?_⟩
      refine gQ 2 rfl rfl hF hS rfl (ef_call fn51 rfl (fun w hS => clonek_ct _ _ (by first | with_reducible assumption | omega) w (Sl.mono (hS.le zin0) hk))) ?_
      clear hF hS; rintro v_11_2 _ _ a w ⟨_, _, rfl, rfl, ⟨z_11_2, hz_11_2, rfl, rfl⟩⟩ hF hS
      refine ⟨⟨.inr (hS.k1 (zQ.k.n.n)), .inr hS.k0, iQ, iQ, trivial⟩, ?_⟩
      refine gQ 5 rfl rfl hF hS rfl (ef_call fn56 rfl (fun w hS => clone_ct _ _ (by first | with_reducible assumption | omega) w (Sl.mono (hS.le zin0) hm))) ?_
      clear hF hS; rintro v_11_5 _ _ a w ⟨_, _, rfl, rfl, rfl, rfl⟩ hF hS
      refine ⟨⟨iQ, iQ, iQ, iQ, trivial⟩, ?_⟩
      refine goW_take 6 _ rfl kQ rfl hF (hS.keep sQ (zQ.k)) (q_buildS1 ty38 2 kQ rfl rfl (oc_cons (sl_one' hz_11_2) (oc_cons (row_one (hS.own _ (List.mem_of_getElem? (i := 0) rfl)).1) oc_nil)) rfl rfl) ?_
      clear hF; intro a hF
      refine gQ 8 rfl rfl hF hS rfl (ef_storeW ty38 1 rfl rfl rfl rfl bQ (oc_cons (sl_one' hz_11_2) (oc_cons (row_one (hS.own _ (List.mem_of_getElem? (i := 0) rfl)).1) oc_nil)) bQ) ?_
      clear hF hS; rintro _ _ _ a w ⟨rfl, rfl, rfl⟩ hF hS
      refine ⟨⟨iQ, iQ, iQ, iQ, iQ, trivial⟩, ?_⟩
      exact goW_done kQ (j4_mk v_11_2 z_11_2 v_11_5 b_11_7 ((And.intro hz_11_2 trivial)) (hF.sub (L' := [(4, _), (5, _), (8, _), (10, _), (11, _), (12, _)]) ⟨rfl, rfl, rfl, rfl, rfl, rfl, trivial⟩) (hS.perm (.swap _ _ _)))
    rintro a w ⟨v_11_2, z_11_2, v_11_5, b_11_7, ⟨hz_11_2, -⟩, hF, hS⟩
    (try dsimp only at hF); (try dsimp only at hS)
    refine hK14 _ _ ?_
    clear hK14
    refine wp_seq_k ?_; intro K15 hK15
    refine wp_seq_k ?_; intro K16 hK16
    refine reg hF hS (sq rfl (q_fieldAddr ty42 rfl rfl (s' := 0) kQ) <|
      sq rfl (q_ld_blk1 ty22 4 rfl rfl rfl rfl) <|
      sq rfl (q_len_sl ty22 hxs rfl) <|
      sq rfl (q_move rfl) <|
      sq_end) ?_
    clear hF hS; intro a w hF hS
    refine hK16 _ _ ?_
    clear hK16
    refine wp_block ?_
    obtain ⟨hs0, hhs0, hS⟩ : ∃ h, h = _ ∧ St _ _ h _ := ⟨_, rfl, hS⟩
    refine wp_loopx (γ := Int) (0) (fun (i : Int) => [(61, vi i)]) [(4, _), (5, _), (8, _), (10, _), (11, _), (12, _), (60, _)] (fun (i : Int) => (hs0.set 1 (.row v_11_5 3 1 ms.length ((Hu.tlm xb ks ms (Gu.ixF (fun y => decide (s = y)) xs) (Hu.markOf bad) i.toNat).map vi)))) (fun (i : Int) => 0 ≤ i ∧ i ≤ xs.length) (fun (i : Int) => (xs.length - i).toNat) (hF.sub ⟨rfl, rfl, rfl, rfl, rfl, rfl, rfl, rfl, trivial⟩) (by subst hhs0; (try dsimp only); rw [show (0 : Int).toNat = 0 from rfl, Hu.tlm_0]; exact hS) (by exact ⟨Int.le_refl _, by omega⟩) ?_
    clear hF hS; rintro i a w hfact hF hS
    subst hhs0; (try dsimp only at hfact); (try dsimp only at hF); (try dsimp only at hS)
    obtain ⟨hi0, hi1⟩ := hfact
    replace hS : St _ [_] [_, _, _, _, _] _ := hS
    refine wp_seq_k ?_; intro K17 hK17
    refine reg hF hS (sq rfl (q_lti rfl rfl) <|
      sq_end) ?_
    clear hF hS; intro a w hF hS
    refine hK17 _ _ ?_
    clear hK17
    refine wp_seq_k ?_; intro K18 hK18
    refine wp_ifd hF rfl (fun hc5 => ?_) (fun hc5 => ?_)
    ·have hki := hk16 i.toNat (by omega)
     have hka := hk16 (Gu.ixF (fun y => decide (s = y)) xs).toNat (by omega)
     refine wp_skip ?_
     refine hK18 _ _ ?_
     clear hK18
     refine wp_seq_k ?_; intro K19 hK19
     refine wp_block ?_
     refine wp_seq_k ?_; intro K20 hK20
     refine reg hF hS (sq rfl (q_move rfl) <|
       sq rfl (q_assign rfl) <|
       sq_end) ?_
     clear hF hS; intro a w hF hS
     refine hK20 _ _ ?_
     clear hK20
     refine wp_seq_k ?_; intro K21 hK21
     refine regq mixed kQ hS ?_
     refine wpq_seg hF (sq rfl (q_fieldAddr ty42 rfl rfl (s' := 0) kQ) <|
       sq rfl (q_ld_blk1 ty24 4 rfl rfl rfl rfl) <|
       sq rfl (q_move rfl) <|
       sq rfl (q_idx_sl ty24 ty4 hxb rfl rfl (by omega)) <|
       sq rfl (q_ld_T ty4 hxb zin0 rfl rfl (by omega)) <|
       sq rfl (q_move rfl) <|
       sq_end) ?_
     clear hF; intro a hF
     refine wpq_and 5 69 11 hF rfl rfl rfl rfl rfl (fun hg => have hg := hg; sq_go 69 rfl rfl rfl (q_fieldAddr ty38 rfl rfl (s' := 0) kQ) <|
       sq_go 69 rfl rfl rfl (q_ld_blk1 ty28 3 rfl rfl rfl rfl) <|
       sq_go 69 rfl rfl rfl (q_move rfl) <|
       sq_go 69 rfl rfl rfl (q_idx_sl ty28 ty66 hk rfl rfl (by omega)) <|
       sq_go 69 rfl rfl rfl (q_ld_AB ty66 hk zin0 rfl rfl (by decide) (by omega)) <|
       sq_go 69 rfl rfl rfl (q_fieldAddr ty38 rfl rfl (s' := 0) kQ) <|
       sq_go 69 rfl rfl rfl (q_ld_blk1 ty28 3 rfl rfl rfl rfl) <|
       sq_go 69 rfl rfl rfl (q_move rfl) <|
       sq_go 69 rfl rfl rfl (q_idx_sl ty28 ty66 hk rfl rfl (by omega)) <|
       sq_go 69 rfl rfl rfl (q_ld_AB ty66 hk zin0 rfl rfl (by decide) (by omega)) <|
       sq_go 69 rfl rfl rfl (q_eqAB ty66 ty5 kQ rfl rfl bQ bQ) <|
       sq_end) rfl rfl ?_
     clear hF; intro a hF
     refine wpq_nil ?_
     clear hS; intro w hS
     refine hK21 _ _ ?_
     clear hK21
     refine wp_if hF rfl (fun hc6 => ?_) (fun hc6 => ?_)
     ·(try simp only [Bool.or_eq_true, Bool.and_eq_true, Bool.or_eq_false_iff, Bool.and_eq_false_iff, decide_eq_true_eq, decide_eq_false_iff_not, Bool.not_eq_true', Bool.not_eq_false'] at hc6)
      refine regl ?_
      refine wpl_sq hF hS (sq rfl (q_fieldAddr ty38 rfl rfl (s' := 0) kQ) <|
        sq rfl (q_ld_blk1 ty22 0 rfl rfl rfl rfl) <|
        sq rfl (q_move rfl) <|
        sq rfl (q_move rfl) <|
        sq rfl (q_idx_row ty22 ty3 1 rfl rfl rfl (by omega)) <|
        sq_end) ?_
      clear hF hS; intro a w hF hS
      refine wpl_ef hF hS rfl (ef_st_row ty3 1 rfl rfl rfl (by omega) rfl) ?_
      clear hF hS; rintro _ _ _ a w ⟨rfl, rfl, rfl⟩ hF hS
      replace hS : St _ [_] [_, _, _, _, _] _ := hS
      refine wpList_nil ?_
      refine hK19 _ _ ?_
      clear hK19
      refine reg hF hS (sq rfl (q_addi rfl rfl (by omega)) <|
        sq rfl (q_move rfl) <|
        sq_end) ?_
      clear hF hS; intro a w hF hS
      refine ⟨(i + 1), ?_, ?_, hF.sub ⟨rfl, rfl, rfl, rfl, rfl, rfl, rfl, rfl, trivial⟩, ?_⟩
      ·(try dsimp only); omega
      ·(try dsimp only); omega
      ·(try dsimp only); rw [Hu.tlm_t ⟨hi0, by omega⟩ hc6, List.map_set]; exact hS
     ·(try simp only [Bool.or_eq_true, Bool.and_eq_true, Bool.or_eq_false_iff, Bool.and_eq_false_iff, decide_eq_true_eq, decide_eq_false_iff_not, Bool.not_eq_true', Bool.not_eq_false'] at hc6)
      refine wp_skip ?_
      refine hK19 _ _ ?_
      clear hK19
      refine reg hF hS (sq rfl (q_addi rfl rfl (by omega)) <|
        sq rfl (q_move rfl) <|
        sq_end) ?_
      clear hF hS; intro a w hF hS
      refine ⟨(i + 1), ?_, ?_, hF.sub ⟨rfl, rfl, rfl, rfl, rfl, rfl, rfl, rfl, trivial⟩, ?_⟩
      ·(try dsimp only); omega
      ·(try dsimp only); omega
      ·(try dsimp only); rw [Hu.tlm_f hi0 hc6]; exact hS
    ·obtain rfl : i = xs.length := by omega
     rw [Int.toNat_natCast] at hS
     refine wp_exit ?_
     refine hK15 _ _ ?_
     clear hK15
     refine wp_seq_k ?_; intro K22 hK22
     refine regl ?_
     refine wpl_sq hF hS (sq rfl (q_ld_blkW ty38 0 rfl rfl bQ rfl) <|
       sq_end) ?_
     clear hF hS; intro a w hF hS
     refine wpl_ef hF hS rfl (ef_storeW ty38 2 rfl rfl rfl rfl bQ (oc_cons (sl_one' hz_11_2) (oc_cons (row_one (hS.own _ (List.mem_of_getElem? (i := 1) rfl)).1) oc_nil)) bQ) ?_
     clear hF hS; rintro _ _ _ a w ⟨rfl, rfl, rfl⟩ hF hS
     replace hS : St _ [_] [_, _, _, _, _] _ := hS
     refine wpl_sq hF hS (sq rfl (q_assign rfl) <|
       sq_end) ?_
     clear hF hS; intro a w hF hS
     refine wpList_nil ?_
     refine hK22 _ _ ?_
     clear hK22
     refine wp_ret ?_
     replace hS := hS.perm (.swap _ _ _)
     obtain ⟨zm, hzm, hS⟩ := St.freezeV (h0 := fun _ => rfl) (f := vi) (p := fun x => -9223372036854775808 ≤ x ∧ x ≤ 9223372036854775807) (xs := (Hu.tlm xb ks ms (Gu.ixF (fun y => decide (s = y)) xs) (Hu.markOf bad) xs.length)) (hS.rowEq (m' := List.length ((Hu.tlm xb ks ms (Gu.ixF (fun y => decide (s = y)) xs) (Hu.markOf bad) xs.length))) (cs' := List.map vi ((Hu.tlm xb ks ms (Gu.ixF (fun y => decide (s = y)) xs) (Hu.markOf bad) xs.length))) (Hu.tlm_len _).symm (by first | rfl | (simp [vi]; done))) rfl (by first | omega | (rw [Hu.tlm_len]; omega) | (simp; omega)) (Hu.tlm_rng (sl_rng hm) hmk _)
     obtain ⟨zu, hzu, hS⟩ := hS.union
     exact fn_ret (rs := [.cell 8 38, .tmp 9]) rfl hF hS (vs := [_, _]) ⟨⟨_, _, _, _, _, _, _, rfl, List.mem_of_getElem? (i := 1) rfl, ty38, .inl ⟨rfl, bQ, rfl⟩⟩, rfl, trivial⟩ (zs' := [zu]) (hs' := []) (List.singleton_sublist.2 (by simp)) zQ (kn_of (Hu.telK_0 hft (by simpa using hc2) (by omega)) ⟨_, _, zu, rfl, Sl.mono (hzu _ (by simp)) hz_11_2, Sl.mono (hzu _ (by simp)) hzm, rfl, rfl⟩)
end Go.Proofs.Ytefjpigmgmbghaa
