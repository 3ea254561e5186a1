/- A text of a proof over this seat: walks over the program's functions and the plain laws that they need. -/
import Derived.Test.YtplceoanaoeejaaQq13
import Derived.Test.YtplceoanaoeejaaGpA
import Derived.Test.YtplceoanaoeejaaFwC
import Derived.Test.YtplceoanaoeejaaFwB
set_option linter.all false
namespace Go.Proofs.Ytplceoanaoeejaa
open Go.Fw


/-- A queue made of numbers. -/
def MadeR (xs : List Int) (r : Value) (zs : List PH) (hs : List Res) : Prop :=
 ∃ (v : Value) (B : Int) (C : List Int) (z : PH), r = .agg [vi B, v].toArray ∧ Sl encI z v C ∧ C.length ≤ 8 ∧ (0 < xs.length → B ∈ xs ∧ ∀ c ∈ C, c ∈ xs) ∧ (-9223372036854775808 ≤ B ∧ B ≤ 9223372036854775807) ∧ zs = [z] ∧ hs = []
/-- Marks made of numbers. -/
def MarksR (n : Nat) (r : Value) (zs : List PH) (hs : List Res) : Prop := ∃ (M : List Bool) (z : PH), Sl encT z r M ∧ M.length = n ∧ zs = [z] ∧ hs = []

set_option maxRecDepth 4000 in
set_option maxHeartbeats 2000000 in
theorem made_ct (xN xS xB : Value) (xs : List Int) (xb : List Bool) (v : Value) (m : List Int) (hl : xs.length < 1048576) (w : World) (hxn : xN.oneCell' = true) (hxs : Sl encI (ph w) xS xs) (hxb : Sl encT (ph w) xB xb) (hm : Sl encI (ph w) v m) : Ct Try.prog 28 [.agg [xN, xS, xB].toArray, v] w (MadeR xs) := by
 refine fn_enter Try.func28 rfl Try.ntmps28 (Nat.le_of_ble_eq_true rfl) fun a hF hS => ?_
 have hsl := hxs.1
 have hml := hm.1
 have hxr := sl_rng hxs
 have hr9 := Gu.atN_range (l := m) (i := 1) (m := 9) (by decide)
 refine wp_seq_k ?_; intro K1 hK1
 refine regl ?_
 refine wpl_ef hF hS rfl (ef_boxA rfl) ?_
 clear hF hS; rintro _ _ _ a w ⟨b1, rfl, rfl, rfl⟩ hF hS
 refine wpl_ef hF hS rfl (ef_allocA ty37) ?_
 clear hF hS; rintro _ _ _ a w ⟨b2, rfl, rfl, rfl⟩ hF hS
 refine wpList_nil ?_
 refine hK1 _ _ ?_
 clear hK1
 refine wp_seq_k ?_; intro K2 hK2
 refine reg hF hS (sq rfl (q_fieldAddr ty33 rfl rfl (s' := 0) kQ) <|
   sq rfl (q_ld_blk1 ty22 1 rfl rfl rfl rfl) <|
   sq rfl (q_len_sl ty22 hxs rfl) <|
   sq rfl (q_max rfl rfl) <|
   sq rfl (q_assign rfl) <|
   sq_end) ?_
 clear hF hS; intro a w hF hS
 refine hK2 _ _ ?_
 clear hK2
 refine wp_seq_k ?_; intro K3 hK3
 refine regl ?_
 refine wpl_sq hF hS (sq rfl (q_buildP (places := [(0, 1), (1, 1)]) (cells := [.int .i64 0, .slice none 0 0]) ty37 kQ rfl (by rfl)) <|
   sq_end) ?_
 clear hF hS; intro a w hF hS
 refine wpl_ef hF hS rfl (ef_allocA ty37) ?_
 clear hF hS; rintro _ _ _ a w ⟨b3, rfl, rfl, rfl⟩ hF hS
 refine wpl_ef hF hS rfl (ef_storeW ty37 0 rfl rfl rfl rfl bQ (oc_cons rfl (oc_cons rfl oc_nil)) bQ) ?_
 clear hF hS; rintro _ _ _ a w ⟨rfl, rfl, rfl⟩ hF hS
 replace hS : St _ [] [_, _, _] _ := hS
 refine wpList_nil ?_
 replace hS := hS.nilRow 3 1
 replace hS : St _ [] [_, _, _, _] _ := hS
 refine hK3 _ _ ?_
 clear hK3
 obtain ⟨hs0, hhs0, hS⟩ : ∃ h, h = _ ∧ St _ _ h _ := ⟨_, rfl, hS⟩
 refine wp_cutx (γ := Int) (fun (bb : Int) => []) [(1, _), (2, _), (4, _), (5, _), (6, _)] (fun (bb : Int) => (hs0.set 1 (.blk b3 37 [vi bb, (Value.slice none 0 0)]))) (fun (bb : Int) => (0 < xs.length → bb ∈ xs) ∧ (-9223372036854775808 ≤ bb ∧ bb ≤ 9223372036854775807)) (hF.sub ⟨rfl, rfl, rfl, rfl, rfl, trivial⟩) hS ?_ ?_
 ·subst hhs0
  refine wp_seq_k ?_; intro K4 hK4
  refine reg hF hS (sq rfl (q_fieldAddr ty33 rfl rfl (s' := 0) kQ) <|
    sq rfl (q_ld_blk1 ty22 3 rfl rfl rfl rfl) <|
    sq rfl (q_len_sl ty22 hxs rfl) <|
    sq rfl (q_gti rfl rfl) <|
    sq_end) ?_
  clear hF hS; intro a w hF hS
  refine hK4 _ _ ?_
  clear hK4
  refine wp_ifd hF rfl (fun hc1 => ?_) (fun hc1 => ?_)
  ·have hra := Gu.atN_range (l := m) (i := 0) (m := min (max (xs.length : Int) 1) 3) (by omega)
   refine regt 9 mixed kQ hF hS (sq rfl (q_fieldAddr ty33 rfl rfl (s' := 0) kQ) <|
     sq rfl (q_ld_blk1 ty22 3 rfl rfl rfl rfl) <|
     sq rfl (q_move rfl) <|
     sq rfl (q_move rfl) <|
     sq rfl (q_min rfl rfl) <|
     sq rfl (q_call fn44 rfl (fun w hS => at_ct _ _ _ _ (by omega) w (Sl.mono (hS.le zin0) hm)) (fun _ _ _ h => h)) <|
     sq rfl (q_idx_sl ty22 ty3 hxs rfl rfl (by omega)) <|
     sq rfl (q_ld_I ty3 hxs zin0 rfl rfl (by omega)) <|
     sq rfl (q_fieldAddr ty37 rfl rfl (s' := 0) kQ) <|
     sq_end) ?_
   clear hF hS; intro a w hF hS
   refine wpl_ef hF hS rfl (ef_store1 ty3 1 rfl rfl rfl rfl (by simp)) ?_
   clear hF hS; rintro _ _ _ a w ⟨rfl, rfl, rfl⟩ hF hS
   replace hS : St _ [] [_, .blk _ _ ([_, _].set 0 _), _, _] _ := hS
   simp only [List.set_cons_zero, List.set_cons_succ] at hS
   replace hS : St _ [] [_, _, _, _] _ := hS
   refine wpList_nil ?_
   refine ⟨(xs.getD (Gu.atN m 0 (min (max (xs.length : Int) 1) 3)).toNat 0), ?_, hF.sub ⟨rfl, rfl, rfl, rfl, rfl, trivial⟩, ?_⟩
   ·have hmm : xs.getD (Gu.atN m 0 (min (max (xs.length : Int) 1) 3)).toNat 0 ∈ xs := getD_mem (by omega)
    exact ⟨fun _ => hmm, hxr _ hmm⟩
   ·exact hS
  ·refine wp_skip ?_
   refine ⟨(0), ?_, hF.sub ⟨rfl, rfl, rfl, rfl, rfl, trivial⟩, ?_⟩
   ·exact ⟨fun h => absurd h (by omega), by decide⟩
   ·exact hS
 clear hF hS; rintro bb a w hfact hF hS
 subst hhs0; (try dsimp only at hfact); (try dsimp only at hF); (try dsimp only at hS)
 have hbb := hfact
 replace hS : St _ [] [_, _, _, _] _ := hS
 refine wp_seq_k ?_; intro K5 hK5
 refine wp_seq_k ?_; intro K6 hK6
 refine reg hF hS (sq rfl (q_assign rfl) <|
   sq_end) ?_
 clear hF hS; intro a w hF hS
 refine hK6 _ _ ?_
 clear hK6
 refine wp_block ?_
 obtain ⟨hs0, hhs0, hS⟩ : ∃ h, h = _ ∧ St _ _ h _ := ⟨_, rfl, hS⟩
 refine wp_loopx (γ := Value × List Int × Int) ((Value.slice none 0 0), [], 0) (fun (gg : Value × List Int × Int) => match gg with | (u, C, i) => [(7, vi i)]) [(1, _), (2, _), (4, _), (5, _), (6, _)] (fun (gg : Value × List Int × Int) => match gg with | (u, C, i) => ((hs0.set 1 (.blk b3 37 [vi bb, u])).set 0 (.row u 3 1 C.length (C.map vi)))) (fun (gg : Value × List Int × Int) => match gg with | (u, C, i) => 0 ≤ i ∧ i ≤ 8 ∧ (C.length : Int) = i ∧ ∀ c ∈ C, c ∈ xs) (fun (gg : Value × List Int × Int) => match gg with | (u, C, i) => (9 - i).toNat) (hF.sub ⟨rfl, rfl, rfl, rfl, rfl, rfl, trivial⟩) (by subst hhs0; exact hS) (by exact ⟨Int.le_refl _, by omega, rfl, fun c h => by cases h⟩) ?_
 clear hF hS; rintro ⟨u, C, i⟩ a w hfact hF hS
 subst hhs0; (try dsimp only at hfact); (try dsimp only at hF); (try dsimp only at hS)
 obtain ⟨hi0, hi1, hCl, hCm⟩ := hfact
 replace hS : St _ [] [_, _, _, _] _ := hS
 refine wp_seq_k ?_; intro K7 hK7
 refine wp_seq_k ?_; intro K8 hK8
 refine regl ?_
 refine wpl_sq hF hS (sq rfl (q_move rfl) <|
   sq rfl (q_move rfl) <|
   sq rfl (q_call fn44 rfl (fun w hS => at_ct _ _ _ _ (by omega) w (Sl.mono (hS.le zin0) hm)) (fun _ _ _ h => h)) <|
   sq rfl (q_lti rfl rfl) <|
   sq rfl (q_move rfl) <|
   sq_end) ?_
 clear hF hS; intro a w hF hS
 refine wpl_and 4 30 4 hF hS rfl rfl rfl rfl rfl (fun hg => have hg := (by first | exact of_decide_eq_true hg | exact hg); sq_go 30 rfl rfl rfl (q_fieldAddr ty33 rfl rfl (s' := 0) kQ) <|
   sq_go 30 rfl rfl rfl (q_ld_blk1 ty22 3 rfl rfl rfl rfl) <|
   sq_go 30 rfl rfl rfl (q_len_sl ty22 hxs rfl) <|
   sq_go 30 rfl rfl rfl (q_gti rfl rfl) <|
   sq_end) rfl rfl ?_
 clear hF hS; intro a w hF hS
 refine wpList_nil ?_
 refine hK8 _ _ ?_
 clear hK8
 refine wp_if hF rfl (fun hc2 => ?_) (fun hc2 => ?_)
 ·(try simp only [Bool.or_eq_true, Bool.and_eq_true, Bool.or_eq_false_iff, Bool.and_eq_false_iff, decide_eq_true_eq, decide_eq_false_iff_not, Bool.not_eq_true', Bool.not_eq_false'] at hc2)
  have hlp : 0 < xs.length := by have := hc2.2; omega
  have hrb := Gu.atN_range (l := m) (i := 2 + i) (m := max (xs.length : Int) 1) (by omega)
  refine wp_skip ?_
  refine hK7 _ _ ?_
  clear hK7
  refine wp_seq_k ?_; intro K9 hK9
  refine wp_block ?_
  revert hS; revert hF; apply regJ (J := J2 (α0 := Value) (α1 := Value) 53 _ _ _ _ _) #[false, false, false, false, false, false, false, false, false, false, false, false, false, false, false] 15 mixed rfl rfl
  ·intro w hF hS
   refine goW_take 0 _ rfl kQ rfl hF (hS.keep sQ zQ) (q_fieldAddr ty37 rfl rfl (s' := 0) kQ) ?_
   clear hF; intro a hF
   refine goW_take 1 _ rfl kQ rfl hF (hS.keep sQ (zQ.k.n)) (q_ld_blk1 ty22 0 rfl rfl rfl rfl) ?_
   clear hF; intro a hF
   refine goW_take 2 _ rfl kQ rfl hF (hS.keep sQ zQ) (q_fieldAddr ty33 rfl rfl (s' := 0) kQ) ?_
   clear hF; intro a hF
   refine goW_take 3 _ rfl kQ rfl hF (hS.keep sQ (sQ.n.n.n)) (q_ld_blk1 ty22 0 rfl rfl rfl rfl) ?_
   clear hF; intro a hF
   refine goW_take 4 _ rfl kQ rfl hF (hS.keep sQ zQ) (q_move rfl) ?_
   clear hF; intro a hF
   refine goW_take 5 _ rfl kQ rfl hF (hS.keep sQ zQ) (q_move rfl) ?_
   clear hF; intro a hF
   refine goW_take 6 _ rfl kQ rfl hF (hS.keep sQ zQ) (q_addi rfl rfl (by omega)) ?_
   clear hF; intro a hF
   refine goW_take 7 _ rfl kQ rfl hF (hS.keep sQ zQ) (q_move rfl) ?_
   clear hF; intro a hF
   refine gQ 8 rfl rfl hF hS rfl (ef_qt (q_call fn44 rfl (fun w hS => at_ct _ _ _ _ (by omega) w (Sl.mono (hS.le zin0) hm)) (fun _ _ _ h => h))) ?_
   clear hF hS; rintro _ _ _ a w ⟨rfl, rfl, rfl⟩ hF hS
   refine ⟨⟨iQ, iQ, iQ, iQ, .inr (hS.k1 (sQ.n.n.n)), .inr hS.k0, .inr (hS.k1 (zQ.k.n)), .inr hS.k0, trivial⟩, ?_⟩
   refine goW_take 9 _ rfl kQ rfl hF (hS.keep sQ zQ) (q_idx_sl ty22 ty3 hxs rfl rfl (by omega)) ?_
   clear hF; intro a hF
   refine goW_take 10 _ rfl kQ rfl hF (hS.keep sQ zQ) (q_ld_I ty3 hxs zin0 rfl rfl (by omega)) ?_
   clear hF; intro a hF
   refine gQ 11 rfl rfl hF hS rfl (ef_bsliceA ty22 ty3 rfl rfl oQ (by decide) rfl rfl) ?_
   clear hF hS; rintro v_8_11 _ _ a w ⟨rfl, rfl⟩ hF hS
   refine ⟨⟨iQ, iQ, iQ, iQ, iQ, iQ, .inr (hS.k1 (sQ.n.n.n.n)), .inr hS.k0, .inr (hS.k1 (zQ.k.n.n)), .inr hS.k0, trivial⟩, ?_⟩
   refine gQ 12 rfl rfl hF hS rfl (ef_append ty22 ty3 1 rfl rfl rfl (src_row ty22 (k := 0) rfl oQ) bQ rfl (by decide)) ?_
   clear hF hS; rintro v_8_12 _ _ a w ⟨rfl, rfl⟩ hF hS
   refine ⟨⟨iQ, iQ, iQ, iQ, iQ, iQ, .inr (hS.k1 (sQ.n.n.n.n)), .inr hS.k0, iQ, iQ, trivial⟩, ?_⟩
   refine goW_take 13 _ rfl kQ rfl hF (hS.keep sQ zQ) (q_fieldAddr ty37 rfl rfl (s' := 0) kQ) ?_
   clear hF; intro a hF
   refine gQ 14 rfl rfl hF hS rfl (ef_store1 ty22 2 rfl rfl rfl (row_one (hS.own _ (List.mem_of_getElem? (i := 1) rfl)).1) (by simp)) ?_
   clear hF hS; rintro _ _ _ a w ⟨rfl, rfl, rfl⟩ hF hS
   replace hS : St _ [] [_, _, .blk _ _ ([_, _].set 1 _), _, _] _ := hS
   simp only [List.set_cons_zero, List.set_cons_succ] at hS
   replace hS : St _ [] [_, _, _, _, _] _ := hS
   refine ⟨⟨iQ, iQ, iQ, iQ, iQ, iQ, iQ, iQ, iQ, iQ, iQ, trivial⟩, ?_⟩
   exact goW_done kQ (j2_mk v_8_11 v_8_12 (trivial) (hF.sub (L' := [(1, _), (2, _), (4, _), (5, _), (6, _), (7, _)]) ⟨rfl, rfl, rfl, rfl, rfl, rfl, trivial⟩) hS)
  rintro a w ⟨v_8_11, v_8_12, -, hF, hS⟩
  (try dsimp only at hF); (try dsimp only at hS)
  refine hK9 _ _ ?_
  clear hK9
  refine reg hF hS (sq rfl (q_move rfl) <|
    sq rfl (q_addi rfl rfl (by omega)) <|
    sq rfl (q_assign rfl) <|
    sq_end) ?_
  clear hF hS; intro a w hF hS
  replace hS := hS.keep zQ (sQ.n)
  refine ⟨(v_8_12, C ++ [(xs.getD (Gu.atN m (2 + i) (max (xs.length : Int) 1)).toNat 0)], i + 1), ?_, ?_, hF.sub ⟨rfl, rfl, rfl, rfl, rfl, rfl, trivial⟩, ?_⟩
  ·(try dsimp only); omega
  ·refine ⟨by omega, by omega, by simp; omega, fun c hc => ?_⟩
   rcases List.mem_append.1 hc with hc | hc
   ·exact hCm c hc
   ·rw [List.mem_singleton.1 hc]; exact getD_mem (by omega)
  ·dsimp only; rw [List.map_append, List.length_append]; exact hS
 ·(try simp only [Bool.or_eq_true, Bool.and_eq_true, Bool.or_eq_false_iff, Bool.and_eq_false_iff, decide_eq_true_eq, decide_eq_false_iff_not, Bool.not_eq_true', Bool.not_eq_false'] at hc2)
  refine wp_exit ?_
  refine hK5 _ _ ?_
  clear hK5
  refine wp_seq_k ?_; intro K10 hK10
  refine regl ?_
  refine wpl_sq hF hS (sq rfl (q_ld_blkW ty37 1 rfl rfl bQ rfl) <|
    sq_end) ?_
  clear hF hS; intro a w hF hS
  refine wpl_ef hF hS rfl (ef_storeW ty37 2 rfl rfl rfl rfl bQ (oc_cons rfl (oc_cons (row_one (hS.own _ (List.mem_of_getElem? (i := 0) rfl)).1) oc_nil)) bQ) ?_
  clear hF hS; rintro _ _ _ a w ⟨rfl, rfl, rfl⟩ hF hS
  replace hS : St _ [] [_, _, _, _] _ := hS
  refine wpList_nil ?_
  refine hK10 _ _ ?_
  clear hK10
  refine wp_ret ?_
  obtain ⟨zr, hzr, hS⟩ := St.freezeV (h0 := fun _ => rfl) (f := vi) (p := fun x => -9223372036854775808 ≤ x ∧ x ≤ 9223372036854775807) (xs := C) hS rfl (by omega) (fun x hx => hxr x (hCm x hx))
  exact fn_ret (rs := [.cell 4 37]) rfl hF hS (vs := [_]) ⟨⟨_, _, _, _, _, _, _, rfl, List.mem_of_getElem? (i := 1) rfl, ty37, .inl ⟨rfl, bQ, rfl⟩⟩, trivial⟩ (zs' := [zr]) (hs' := []) (List.singleton_sublist.2 (by simp)) zQ ⟨_, bb, C, zr, rfl, hzr, by omega, fun h => ⟨hbb.1 h, hCm⟩, hbb.2, rfl, rfl⟩

set_option maxRecDepth 4000 in
set_option maxHeartbeats 2000000 in
theorem marks_ct (xN xS xB : Value) (xs : List Int) (xb : List Bool) (v : Value) (m : List Int) (hl : xs.length < 1048576) (w : World) (hxn : xN.oneCell' = true) (hxs : Sl encI (ph w) xS xs) (hxb : Sl encT (ph w) xB xb) (hm : Sl encI (ph w) v m) : Ct Try.prog 29 [.agg [xN, xS, xB].toArray, v] w (MarksR xs.length) := by
 refine fn_enter Try.func29 rfl Try.ntmps29 (Nat.le_of_ble_eq_true rfl) fun a hF hS => ?_
 have hsl := hxs.1
 have hml := hm.1
 refine wp_seq_k ?_; intro K1 hK1
 refine regl ?_
 refine wpl_ef hF hS rfl (ef_boxA rfl) ?_
 clear hF hS; rintro _ _ _ a w ⟨b1, rfl, rfl, rfl⟩ hF hS
 refine wpl_sq hF hS (sq rfl (q_assign rfl) <|
   sq_end) ?_
 clear hF hS; intro a w hF hS
 refine wpList_nil ?_
 refine hK1 _ _ ?_
 clear hK1
 refine wp_seq_k ?_; intro K2 hK2
 refine regl ?_
 refine wpl_sq hF hS (sq rfl (q_fieldAddr ty33 rfl rfl (s' := 0) kQ) <|
   sq rfl (q_ld_blk1 ty22 0 rfl rfl rfl rfl) <|
   sq rfl (q_len_sl ty22 hxs rfl) <|
   sq_end) ?_
 clear hF hS; intro a w hF hS
 refine wpl_ef hF hS rfl (ef_mks ty29 ty4 rfl rfl bQ bQ rfl) ?_
 clear hF hS; rintro v2 _ _ a w ⟨rfl, rfl⟩ hF hS
 replace hS : St _ [] [_, _] _ := hS
 refine wpl_sq hF hS (sq rfl (q_assign rfl) <|
   sq_end) ?_
 clear hF hS; intro a w hF hS
 refine wpList_nil ?_
 refine hK2 _ _ ?_
 clear hK2
 refine wp_seq_k ?_; intro K3 hK3
 refine wp_seq_k ?_; intro K4 hK4
 refine reg hF hS (sq rfl (q_fieldAddr ty33 rfl rfl (s' := 0) kQ) <|
   sq rfl (q_ld_blk1 ty22 1 rfl rfl rfl rfl) <|
   sq rfl (q_len_sl ty22 hxs rfl) <|
   sq rfl (q_eqi rfl rfl) <|
   sq_end) ?_
 clear hF hS; intro a w hF hS
 refine hK4 _ _ ?_
 clear hK4
 refine wp_ifd hF rfl (fun hc1 => ?_) (fun hc1 => ?_)
 ·obtain ⟨M, hM⟩ : ∃ M, M = List.replicate xs.length false := ⟨_, rfl⟩
  have hMl : M.length = xs.length := by rw [hM]; simp
  rw [show List.replicate xs.length (Value.bool false) = M.map vt from by rw [hM, List.map_replicate]] at hS
  refine wp_seq_k ?_; intro K5 hK5
  refine reg hF hS (sq rfl (q_move rfl) <|
    sq rfl (q_assign rfl) <|
    sq_end) ?_
  clear hF hS; intro a w hF hS
  refine hK5 _ _ ?_
  clear hK5
  refine wp_ret ?_
  obtain ⟨zr, hzr, hS⟩ := St.freezeV (h0 := fun _ => rfl) (f := vt) (p := fun _ => True) (xs := M) hS hMl.symm (by omega) (fun _ _ => trivial)
  exact fn_ret (rs := [.tmp 4]) rfl hF hS (vs := [_]) ⟨rfl, trivial⟩ (zs' := [zr]) (hs' := []) (List.singleton_sublist.2 (by simp)) zQ ⟨M, zr, hzr, hMl, rfl, rfl⟩
 ·have hra := Gu.atN_range (l := m) (i := 10) (m := (xs.length : Int)) (by omega)
  have hrb := Gu.atN_range (l := m) (i := 11) (m := (xs.length : Int)) (by omega)
  refine wp_skip ?_
  refine hK3 _ _ ?_
  clear hK3
  refine wp_seq_k ?_; intro K6 hK6
  refine regd mixed kQ hF hS (sq rfl (q_fieldAddr ty33 rfl rfl (s' := 0) kQ) <|
    sq rfl (q_ld_blk1 ty22 1 rfl rfl rfl rfl) <|
    sq rfl (q_move rfl) <|
    sq rfl (q_fieldAddr ty33 rfl rfl (s' := 0) kQ) <|
    sq rfl (q_ld_blk1 ty22 1 rfl rfl rfl rfl) <|
    sq rfl (q_len_sl ty22 hxs rfl) <|
    sq rfl (q_call fn44 rfl (fun w hS => at_ct _ _ _ _ (by omega) w (Sl.mono (hS.le zin0) hm)) (fun _ _ _ h => h)) <|
    sq rfl (q_idx_sl ty22 ty3 hxs rfl rfl (by omega)) <|
    sq rfl (q_ld_I ty3 hxs zin0 rfl rfl (by omega)) <|
    sq rfl (q_assign rfl) <|
    sq_end) ?_
  clear hF hS; intro a w hF hS
  obtain ⟨ma, hma⟩ : ∃ a, a = xs.getD (Gu.atN m 10 xs.length).toNat 0 := ⟨_, rfl⟩
  rw [← hma] at hF
  refine hK6 _ _ ?_
  clear hK6
  refine wp_seq_k ?_; intro K7 hK7
  refine regd mixed kQ hF hS (sq rfl (q_fieldAddr ty33 rfl rfl (s' := 0) kQ) <|
    sq rfl (q_ld_blk1 ty22 1 rfl rfl rfl rfl) <|
    sq rfl (q_move rfl) <|
    sq rfl (q_fieldAddr ty33 rfl rfl (s' := 0) kQ) <|
    sq rfl (q_ld_blk1 ty22 1 rfl rfl rfl rfl) <|
    sq rfl (q_len_sl ty22 hxs rfl) <|
    sq rfl (q_call fn44 rfl (fun w hS => at_ct _ _ _ _ (by omega) w (Sl.mono (hS.le zin0) hm)) (fun _ _ _ h => h)) <|
    sq rfl (q_idx_sl ty22 ty3 hxs rfl rfl (by omega)) <|
    sq rfl (q_ld_I ty3 hxs zin0 rfl rfl (by omega)) <|
    sq rfl (q_assign rfl) <|
    sq_end) ?_
  clear hF hS; intro a w hF hS
  obtain ⟨mb, hmb⟩ : ∃ a, a = xs.getD (Gu.atN m 11 xs.length).toNat 0 := ⟨_, rfl⟩
  rw [← hmb] at hF
  refine hK7 _ _ ?_
  clear hK7
  refine wp_seq_k ?_; intro K8 hK8
  refine reg hF hS (sq rfl (q_move rfl) <|
    sq rfl (q_call fn44 rfl (fun w hS => at_ct _ _ _ _ (by omega) w (Sl.mono (hS.le zin0) hm)) (fun _ _ _ h => h)) <|
    sq rfl (q_assign rfl) <|
    sq_end) ?_
  clear hF hS; intro a w hF hS
  obtain ⟨mk, hmk⟩ : ∃ a, a = Gu.atN m 12 4 := ⟨_, rfl⟩
  rw [← hmk] at hF
  refine hK8 _ _ ?_
  clear hK8
  refine wp_seq_k ?_; intro K9 hK9
  refine wp_seq_k ?_; intro K10 hK10
  refine reg hF hS (sq rfl (q_assign rfl) <|
    sq_end) ?_
  clear hF hS; intro a w hF hS
  refine hK10 _ _ ?_
  clear hK10
  refine wp_block ?_
  obtain ⟨hs0, hhs0, hS⟩ : ∃ h, h = _ ∧ St _ _ h _ := ⟨_, rfl, hS⟩
  refine wp_loopx (γ := List Bool × Int) (List.replicate xs.length false, 0) (fun (gg : List Bool × Int) => match gg with | (M, i) => [(9, vi i)]) [(1, _), (2, _), (5, _), (6, _), (7, _), (8, _)] (fun (gg : List Bool × Int) => match gg with | (M, i) => (hs0.set 0 (.row v2 4 1 xs.length (M.map vt)))) (fun (gg : List Bool × Int) => match gg with | (M, i) => 0 ≤ i ∧ i ≤ xs.length ∧ M.length = xs.length) (fun (gg : List Bool × Int) => match gg with | (M, i) => (xs.length - i).toNat) (hF.sub ⟨rfl, rfl, rfl, rfl, rfl, rfl, rfl, trivial⟩) (by subst hhs0; dsimp only; rw [List.map_replicate]; exact hS) (by exact ⟨Int.le_refl _, by omega, by simp⟩) ?_
  clear hF hS; rintro ⟨M, i⟩ a w hfact hF hS
  subst hhs0; (try dsimp only at hfact); (try dsimp only at hF); (try dsimp only at hS)
  obtain ⟨hi0, hi1, hMl⟩ := hfact
  replace hS : St _ [] [_, _] _ := hS
  refine wp_seq_k ?_; intro K11 hK11
  refine wp_seq_k ?_; intro K12 hK12
  refine reg hF hS (sq rfl (q_move rfl) <|
    sq rfl (q_fieldAddr ty33 rfl rfl (s' := 0) kQ) <|
    sq rfl (q_ld_blk1 ty22 1 rfl rfl rfl rfl) <|
    sq rfl (q_len_sl ty22 hxs rfl) <|
    sq rfl (q_lti rfl rfl) <|
    sq_end) ?_
  clear hF hS; intro a w hF hS
  refine hK12 _ _ ?_
  clear hK12
  refine wp_ifd hF rfl (fun hc2 => ?_) (fun hc2 => ?_)
  ·refine wp_skip ?_
   refine hK11 _ _ ?_
   clear hK11
   refine wp_seq_k ?_; intro K13 hK13
   refine wp_block ?_
   refine wp_seq_k ?_; intro K14 hK14
   refine regl ?_
   refine wpl_sq hF hS (sq rfl (q_move rfl) <|
     sq rfl (q_move rfl) <|
     sq rfl (q_move rfl) <|
     sq rfl (q_fieldAddr ty33 rfl rfl (s' := 0) kQ) <|
     sq rfl (q_ld_blk1 ty22 1 rfl rfl rfl rfl) <|
     sq rfl (q_move rfl) <|
     sq rfl (q_idx_sl ty22 ty3 hxs rfl rfl (by omega)) <|
     sq rfl (q_ld_I ty3 hxs zin0 rfl rfl (by omega)) <|
     sq rfl (q_call fn46 rfl (fun w hS => in_ct _ _ w ) (fun _ _ _ h => h)) <|
     sq rfl (q_move rfl) <|
     sq_end) ?_
   clear hF hS; intro a w hF hS
   refine wpl_orG (q := (decide (0 < mk) && Gu.wi mb (xs.getD i.toNat 0))) 55 11 hF hS rfl (by rfl) rfl (fun _ => sq_skip 55 rfl rfl rfl rfl <|
     sq_skip 55 rfl rfl rfl rfl <|
     sq_skip 55 rfl rfl rfl rfl <|
     sq_skipu 58 rfl rfl rfl <|
     sq_skipu 58 rfl rfl rfl <|
     sq_skipu 58 rfl rfl rfl <|
     sq_skipu 58 rfl rfl rfl <|
     sq_skipu 58 rfl rfl rfl <|
     sq_skipu 58 rfl rfl rfl <|
     sq_skipu 58 rfl rfl rfl <|
     sq_skip 55 rfl rfl rfl rfl <|
     sq_end) rfl (fun hg a w hF hS KG => ?_) ?_
   ·have hg := hg
    refine wpl_sq hF hS (sq_go 55 rfl rfl rfl (q_move rfl) <|
      sq_go 55 rfl rfl rfl (q_gti rfl rfl) <|
      sq_go 55 rfl rfl rfl (q_move rfl) <|
      sq_end) ?_
    clear hF hS; intro a w hF hS
    refine wpl_andP 12 58 7 9 55 hF hS rfl rfl rfl rfl rfl rfl rfl (fun hg2 => have hg2 := (by first | exact of_decide_eq_true hg2 | exact hg2); sq_go 58 rfl rfl rfl (q_move rfl) <|
      sq_go 58 rfl rfl rfl (q_fieldAddr ty33 rfl rfl (s' := 0) kQ) <|
      sq_go 58 rfl rfl rfl (q_ld_blk1 ty22 1 rfl rfl rfl rfl) <|
      sq_go 58 rfl rfl rfl (q_move rfl) <|
      sq_go 58 rfl rfl rfl (q_idx_sl ty22 ty3 hxs rfl rfl (by omega)) <|
      sq_go 58 rfl rfl rfl (q_ld_I ty3 hxs zin0 rfl rfl (by omega)) <|
      sq_go 58 rfl rfl rfl (q_call fn46 rfl (fun w hS => in_ct _ _ w ) (fun _ _ _ h => h)) <|
      sq_end) rfl rfl ?_
    clear hF hS; intro a w hF hS
    refine wpl_sq hF hS (sq rfl (q_pick_f rfl rfl) <|
      sq_end) ?_
    clear hF hS; intro a w hF hS
    exact KG _ _ (hF.under 4 rfl rfl) hS
   clear hF hS; intro a w hF hS
   refine wpl_sq hF hS (sq rfl (q_idx_row ty29 ty4 0 rfl rfl rfl (by omega)) <|
     sq_end) ?_
   clear hF hS; intro a w hF hS
   refine wpl_ef hF hS rfl (ef_st_row ty4 0 rfl rfl rfl (by omega) rfl) ?_
   clear hF hS; rintro _ _ _ a w ⟨rfl, rfl, rfl⟩ hF hS
   replace hS : St _ [] [_, _] _ := hS
   refine wpList_nil ?_
   refine hK14 _ _ ?_
   clear hK14
   refine wp_seq_k ?_; intro K15 hK15
   refine reg hF hS (sq rfl (q_move rfl) <|
     sq rfl (q_eqi rfl rfl) <|
     sq_end) ?_
   clear hF hS; intro a w hF hS
   refine hK15 _ _ ?_
   clear hK15
   refine wp_ifd hF rfl (fun hc3 => ?_) (fun hc3 => ?_)
   ·have hrc := Gu.atN_range (l := m) (i := 13 + i % 6) (m := 4096) (by decide)
    refine regl ?_
    refine wpl_sq hF hS (sq rfl (q_move rfl) <|
      sq rfl (q_move rfl) <|
      sq rfl (q_move rfl) <|
      sq rfl (q_move rfl) <|
      sq rfl (q_remi rfl rfl (by omega)) <|
      sq rfl (q_addi rfl rfl (by omega)) <|
      sq rfl (q_call fn44 rfl (fun w hS => at_ct _ _ _ _ (by omega) w (Sl.mono (hS.le zin0) hm)) (fun _ _ _ h => h)) <|
      sq rfl (q_move rfl) <|
      sq rfl (q_quoi rfl rfl (by omega)) <|
      sq rfl (q_remi rfl rfl (by omega)) <|
      sq rfl (q_cv_iq ty3 ty86 rfl) <|
      sq rfl (q_shri rfl rfl (by omega)) <|
      sq rfl (q_andi rfl rfl) <|
      sq rfl (q_eqi rfl rfl) <|
      sq rfl (q_idx_row ty29 ty4 0 rfl rfl rfl (by omega)) <|
      sq_end) ?_
    clear hF hS; intro a w hF hS
    refine wpl_ef hF hS rfl (ef_st_row ty4 0 rfl rfl rfl (by omega) rfl) ?_
    clear hF hS; rintro _ _ _ a w ⟨rfl, rfl, rfl⟩ hF hS
    replace hS : St _ [] [_, _] _ := hS
    refine wpList_nil ?_
    refine hK13 _ _ ?_
    clear hK13
    refine reg hF hS (sq rfl (q_move rfl) <|
      sq rfl (q_addi rfl rfl (by omega)) <|
      sq rfl (q_assign rfl) <|
      sq_end) ?_
    clear hF hS; intro a w hF hS
    refine ⟨((M.set i.toNat (Gu.wi ma (xs.getD i.toNat 0) || (decide (0 < mk) && Gu.wi mb (xs.getD i.toNat 0)))).set i.toNat (decide (iand (Gu.atN m (13 + i % 6) 4096 / 2 ^ (min ((ofq (i / 6 % 12)).toNat : Int).toNat 64)) 1 = 1)), i + 1), ?_, ?_, hF.sub ⟨rfl, rfl, rfl, rfl, rfl, rfl, rfl, trivial⟩, ?_⟩
    ·(try dsimp only); omega
    ·exact ⟨by omega, by omega, by simp; omega⟩
    ·dsimp only; rw [List.map_set, List.map_set]; exact hS
   ·refine wp_skip ?_
    refine hK13 _ _ ?_
    clear hK13
    refine reg hF hS (sq rfl (q_move rfl) <|
      sq rfl (q_addi rfl rfl (by omega)) <|
      sq rfl (q_assign rfl) <|
      sq_end) ?_
    clear hF hS; intro a w hF hS
    refine ⟨(M.set i.toNat (Gu.wi ma (xs.getD i.toNat 0) || (decide (0 < mk) && Gu.wi mb (xs.getD i.toNat 0))), i + 1), ?_, ?_, hF.sub ⟨rfl, rfl, rfl, rfl, rfl, rfl, rfl, trivial⟩, ?_⟩
    ·(try dsimp only); omega
    ·exact ⟨by omega, by omega, by simp; omega⟩
    ·dsimp only; rw [List.map_set]; exact hS
  ·refine wp_exit ?_
   refine hK9 _ _ ?_
   clear hK9
   refine wp_seq_k ?_; intro K16 hK16
   refine reg hF hS (sq rfl (q_move rfl) <|
     sq rfl (q_assign rfl) <|
     sq_end) ?_
   clear hF hS; intro a w hF hS
   refine hK16 _ _ ?_
   clear hK16
   refine wp_ret ?_
   obtain ⟨zr, hzr, hS⟩ := St.freezeV (h0 := fun _ => rfl) (f := vt) (p := fun _ => True) (xs := M) hS hMl.symm (by omega) (fun _ _ => trivial)
   exact fn_ret (rs := [.tmp 4]) rfl hF hS (vs := [_]) ⟨rfl, trivial⟩ (zs' := [zr]) (hs' := []) (List.singleton_sublist.2 (by simp)) zQ ⟨M, zr, hzr, hMl, rfl, rfl⟩
end Go.Proofs.Ytplceoanaoeejaa
