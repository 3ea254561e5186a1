/- A text of a proof over this seat: walks over the program's functions and the plain laws that they need. -/
import Derived.Test.YtcbjemjohacbpaaGg17
import Derived.Test.YtcbjemjohacbpaaGuA
import Derived.Test.YtcbjemjohacbpaaFwB
set_option linter.all false
namespace Go.Proofs.Ytcbjemjohacbpaa
open Go.Fw
theorem fn23 : FnOk Try.prog 23 := ⟨_, Try.func23, rfl, by kernel_rfl⟩
theorem fn24 : FnOk Try.prog 24 := ⟨_, Try.func24, rfl, by kernel_rfl⟩
theorem fn27 : FnOk Try.prog 27 := ⟨_, Try.func27, rfl, by kernel_rfl⟩

set_option maxRecDepth 4000 in
set_option maxHeartbeats 2000000 in
theorem law17_ct (v : Value) (l : List Int) (v2 : Value) (m : List Int) (h : Int) (hh9 : -9223372036854775808 ≤ h ∧ h ≤ 9223372036854775807) (b : Int) (hb9 : -9223372036854775808 ≤ b ∧ b ≤ 9223372036854775807) (v5 : Value) (rw : List Bool) (s : Int) (hs99 : -9223372036854775808 ≤ s ∧ s ≤ 9223372036854775807) (w : World) (hl : Sl encI (ph w) v l) (hm : Sl encI (ph w) v2 m) (hr : Sl encT (ph w) v5 rw) : Ct Try.prog 4 [v, v2, vi h, vi b, v5, vi s] w (fun r _ _ => r = .bool true) := by
 refine fn_enter Try.func4 rfl Try.ntmps4 (Nat.le_of_ble_eq_true rfl) fun a hF hS => ?_
 have hrl := hr.1
 refine wp_seq_k ?_; intro K1 hK1
 refine reg hF hS (sq rfl (q_assign rfl) <|
   sq_end) ?_
 clear hF hS; intro a w hF hS
 refine hK1 _ _ ?_
 clear hK1
 refine wp_seq_k ?_; intro K2 hK2
 refine regl ?_
 refine wpl_sq hF hS (sq rfl (q_move rfl) <|
   sq rfl (q_move rfl) <|
   sq rfl (q_move rfl) <|
   sq_end) ?_
 clear hF hS; intro a w hF hS
 refine wpl_ef hF hS rfl (ef_call fn11 rfl (fun w hS => some_ct _ _ _ _ (by omega) (by omega) w (Sl.mono (hS.le zin0) hl))) ?_
 clear hF hS; rintro v1 _ _ a w ⟨_, _, rfl, rfl, ⟨ls, zL, hsL, h4L, hlL, rfl, rfl⟩⟩ hF hS
 replace hS : St _ [_] [] _ := hS
 refine wpl_sq hF hS (sq rfl (q_assign rfl) <|
   sq_end) ?_
 clear hF hS; intro a w hF hS
 refine wpList_nil ?_
 refine hK2 _ _ ?_
 clear hK2
 refine wp_seq_k ?_; intro K3 hK3
 refine wp_seq_k ?_; intro K4 hK4
 refine reg hF hS (sq rfl (q_assign rfl) <|
   sq_end) ?_
 clear hF hS; intro a w hF hS
 refine hK4 _ _ ?_
 clear hK4
 refine wp_block ?_
 obtain ⟨hs0, hhs0, hS⟩ : ∃ h, h = _ ∧ St _ _ h _ := ⟨_, rfl, hS⟩
 refine wp_loopx (γ := Int) (0) (fun (i : Int) => [(14, vi i)]) [(1, _), (4, _), (5, _), (13, _)] (fun (i : Int) => hs0) (fun (i : Int) => 0 ≤ i ∧ i ≤ 4) (fun (i : Int) => (4 - i).toNat) (hF.sub ⟨rfl, rfl, rfl, rfl, rfl, trivial⟩) (by subst hhs0; exact hS) (by exact ⟨Int.le_refl _, by omega⟩) ?_
 clear hF hS; rintro i a w hfact hF hS
 subst hhs0; (try dsimp only at hfact); (try dsimp only at hF); (try dsimp only at hS)
 obtain ⟨hi0, hi1⟩ := hfact
 replace hS : St _ [_] [] _ := hS
 refine wp_seq_k ?_; intro K5 hK5
 refine wp_seq_k ?_; intro K6 hK6
 refine reg hF hS (sq rfl (q_move rfl) <|
   sq rfl (q_move rfl) <|
   sq rfl (q_len_sl ty24 hsL rfl) <|
   sq rfl (q_lti rfl rfl) <|
   sq_end) ?_
 clear hF hS; intro a w hF hS
 refine hK6 _ _ ?_
 clear hK6
 refine wp_ifd hF rfl (fun hc1 => ?_) (fun hc1 => ?_)
 ·obtain ⟨nv, sv, bv, ns, is, bs, hxi, hcel, hn9, hs9, hb99⟩ := lat_at hsL (k := i.toNat) (by omega)
  obtain ⟨hln1, hln2, hln3⟩ : ns.length ≤ 40 ∧ is.length ≤ 40 ∧ bs.length ≤ 40 := hlL _ (List.mem_of_getElem? hxi)
  refine wp_skip ?_
  refine hK5 _ _ ?_
  clear hK5
  refine wp_seq_k ?_; intro K7 hK7
  refine wp_block ?_
  refine wp_seq_k ?_; intro K8 hK8
  revert hF hS; apply regJ (J := J3 (α0 := Value) (α1 := PH) (α2 := Value) 184 _ _ _ _ _) #[false, false, false, false, false, false, false, false, false, false, false, false, false] 13 mixed rfl rfl
  ·intro w hF hS
   refine goW_take 0 _ rfl kQ rfl hF (hS.keep sQ zQ) (q_move rfl) ?_
   clear hF; intro a hF
   refine goW_take 1 _ rfl kQ rfl hF (hS.keep sQ zQ) (q_move rfl) ?_
   clear hF; intro a hF
   refine goW_take 2 _ rfl kQ rfl hF (hS.keep sQ zQ) (q_idx_sl ty24 ty29 hsL rfl rfl (by omega)) ?_
   clear hF; intro a hF
   refine goW_take 3 _ rfl kQ rfl hF (hS.keep sQ zQ) (q_ld_lat ty29 hsL (.inr (by simp)) hcel rfl rfl (by omega)) ?_
   clear hF; intro a hF
   refine goW_take 4 _ rfl kQ rfl hF (hS.keep sQ zQ) (q_move rfl) ?_
   clear hF; intro a hF
   refine goW_take 6 _ rfl kQ rfl hF (hS.keep sQ zQ) (q_move rfl) ?_
   clear hF; intro a hF
   refine goW_take 7 _ rfl kQ rfl hF (hS.keep sQ zQ) (q_move rfl) ?_
   clear hF; intro a hF
   refine goW_take 8 _ rfl kQ rfl hF (hS.keep sQ zQ) (q_len_sl ty23 hr rfl) ?_
   clear hF; intro a hF
   refine goW_take 9 _ rfl kQ rfl hF (hS.keep sQ zQ) (q_min rfl rfl) ?_
   clear hF; intro a hF
   refine goW_take 10 _ rfl kQ rfl hF (hS.keep sQ zQ) (q_slsl_hi ty23 ty4 hr rfl rfl (by omega)) ?_
   clear hF; intro a hF
   refine gQ 5 rfl rfl hF hS rfl (ef_call fn12 rfl (fun w hS => each_ct _ _ _ _ _ _ _ (by first | with_reducible assumption | omega) w (sl_one' hn9) (Sl.mono (hS.le (.inr (by simp))) hs9) (Sl.mono (hS.le (.inr (by simp))) hb99) (Sl.mono (hS.le zin0) hm))) ?_
   clear hF hS; rintro v_5_5 _ _ a w ⟨_, _, rfl, rfl, ⟨z_5_5, hz_5_5, rfl, rfl⟩⟩ hF hS
   refine ⟨⟨.inr (hS.keep (sQ.n) zQ), .inr (hS.keep (sQ.n) zQ), .inr (hS.keep (sQ.n) zQ), .inr (hS.keep (sQ.n) zQ), .inr (hS.keep (sQ.n) zQ), iQ, iQ, iQ, .inr (hS.keep (sQ.n) zQ), .inr (hS.keep (sQ.n) zQ), trivial⟩, ?_⟩
   refine gQ 11 rfl rfl hF hS rfl (ef_bsliceA ty30 ty23 rfl rfl (oc_cons (sl_one' hz_5_5) (oc_cons (sl_one' (Sl.cut hr (by omega))) oc_nil)) (by decide) rfl rfl) ?_
   clear hF hS; rintro v_5_11 _ _ a w ⟨rfl, rfl⟩ hF hS
   refine ⟨⟨iQ, iQ, .inr (hS.keep (sQ.n) zQ), .inr (hS.keep (sQ.n) zQ), iQ, iQ, iQ, iQ, .inr (hS.keep (sQ.n) zQ), .inr (hS.keep (sQ.n) zQ), trivial⟩, ?_⟩
   refine goW_take 12 _ rfl kQ rfl hF (hS.keep sQ zQ) (q_assign rfl) ?_
   clear hF; intro a hF
   exact goW_done kQ (j3_mk v_5_5 z_5_5 v_5_11 ((And.intro hz_5_5 trivial)) (hF.sub (L' := [(1, _), (4, _), (5, _), (13, _), (14, _), (15, _)]) ⟨rfl, rfl, rfl, rfl, rfl, rfl, trivial⟩) hS)
  rintro a w ⟨v_5_5, z_5_5, v_5_11, ⟨hz_5_5, -⟩, hF, hS⟩
  (try dsimp only at hF); (try dsimp only at hS)
  obtain ⟨zu, hzu, hS⟩ := hS.union
  replace hS : St _ [_, _, _] [_] _ := hS
  have hA9 := Sl.mono (hzu _ (by simp)) hz_5_5
  have hB9 := Sl.cut (lo := 0) (hi := (min (rw.length : Int) 40).toNat) hr (by omega)
  refine hK8 _ _ ?_
  clear hK8
  refine wp_seq_k ?_; intro K9 hK9
  refine reg hF hS (sq rfl (q_assign rfl) <|
    sq_end) ?_
  clear hF hS; intro a w hF hS
  refine hK9 _ _ ?_
  clear hK9
  refine wp_block ?_
  obtain ⟨hs0, hhs0, hS⟩ : ∃ h, h = _ ∧ St _ _ h _ := ⟨_, rfl, hS⟩
  refine wp_loopx (γ := Int) (0) (fun (k : Int) => [(16, vi k)]) [(1, _), (4, _), (5, _), (13, _), (14, _), (15, _)] (fun (k : Int) => hs0) (fun (k : Int) => 0 ≤ k ∧ k ≤ 2) (fun (k : Int) => (2 - k).toNat) (hF.sub ⟨rfl, rfl, rfl, rfl, rfl, rfl, rfl, trivial⟩) (by subst hhs0; exact hS) (by exact ⟨Int.le_refl _, by omega⟩) ?_
  clear hF hS; rintro k a w hfact hF hS
  subst hhs0; (try dsimp only at hfact); (try dsimp only at hF); (try dsimp only at hS)
  obtain ⟨hk0, hk1⟩ := hfact
  replace hS : St _ [_, _, _] [_] _ := hS
  refine wp_seq_k ?_; intro K10 hK10
  refine wp_seq_k ?_; intro K11 hK11
  refine reg hF hS (sq rfl (q_move rfl) <|
    sq rfl (q_move rfl) <|
    sq rfl (q_len_row ty30 0 rfl rfl) <|
    sq rfl (q_lti rfl rfl) <|
    sq_end) ?_
  clear hF hS; intro a w hF hS
  refine hK11 _ _ ?_
  clear hK11
  refine wp_ifd hF rfl (fun hc2 => ?_) (fun hc2 => ?_)
  ·obtain ⟨zK, mk, hZK, hMK⟩ := pick2 hA9 hB9 (k := k.toNat) (by omega)
   have hhl := Gu.hid_len is bs mk
   have hk9 : ∀ {a b : Value}, k.toNat < [a, b].length := fun {a b} => by show k.toNat < 2; omega
   refine wp_skip ?_
   refine hK10 _ _ ?_
   clear hK10
   refine wp_seq_k ?_; intro K12 hK12
   refine wp_block ?_
   refine wp_seq_k ?_; intro K13 hK13
   revert hF hS; apply regJ (J := J2 (α0 := Value) (α1 := PH) 184 _ _ _ _ _) #[false, false, false, false, false, false, false, false, false, false, false, false, false, false, false] 15 mixed rfl rfl
   ·intro w hF hS
    refine goW_take 0 _ rfl kQ rfl hF (hS.keep sQ zQ) (q_move rfl) ?_
    clear hF; intro a hF
    refine goW_take 1 _ rfl kQ rfl hF (hS.keep sQ zQ) (q_move rfl) ?_
    clear hF; intro a hF
    refine goW_take 2 _ rfl kQ rfl hF (hS.keep sQ zQ) (q_idx_sl ty24 ty29 hsL rfl rfl (by omega)) ?_
    clear hF; intro a hF
    refine goW_take 3 _ rfl kQ rfl hF (hS.keep sQ zQ) (q_ld_lat ty29 hsL (.inr (by simp)) hcel rfl rfl (by omega)) ?_
    clear hF; intro a hF
    refine goW_take 5 _ rfl kQ rfl hF (hS.keep sQ zQ) (q_move rfl) ?_
    clear hF; intro a hF
    refine goW_take 6 _ rfl kQ rfl hF (hS.keep sQ zQ) (q_move rfl) ?_
    clear hF; intro a hF
    refine goW_take 7 _ rfl kQ rfl hF (hS.keep sQ sQ) (q_idx_row ty30 ty23 0 rfl rfl rfl (by omega)) ?_
    clear hF; intro a hF
    refine goW_take 8 _ rfl kQ rfl hF (hS.keep sQ sQ) (q_ld_rowV ty23 0 rfl rfl hk9 rfl) ?_
    clear hF; intro a hF
    refine gQ 4 rfl rfl hF hS rfl (ef_qt (q_call fn14 rfl (fun w hS => own_ct _ _ _ _ _ w (sl_one' hn9) (Sl.mono (hS.le (.inr (by simp))) hs9) (Sl.mono (hS.le (.inr (by simp))) hb99)) (fun _ _ _ h => h))) ?_
    clear hF hS; rintro _ _ _ a w ⟨rfl, rfl, rfl⟩ hF hS
    refine ⟨⟨.inr (hS.keep sQ sQ), .inr (hS.keep sQ sQ), .inr (hS.keep sQ zQ), .inr (hS.keep sQ zQ), iQ, iQ, .inr (hS.keep sQ zQ), .inr (hS.keep sQ zQ), trivial⟩, ?_⟩
    refine gQ 9 rfl rfl hF hS rfl (ef_call fn20 rfl (fun w hS => hidden_ct _ _ _ _ _ _ _ (by first | with_reducible assumption | omega) w (sl_one' hn9) (Sl.mono (hS.le (.inr (by simp))) hs9) (Sl.mono (hS.le (.inr (by simp))) hb99) (Sl.mono (hS.le (hZK.imp id (fun e => by simp [e]))) hMK))) ?_
    clear hF hS; rintro _ _ _ a w ⟨_, _, rfl, rfl, ⟨v_9_9_1, z_9_9, hz_9_9, rfl, rfl, rfl⟩⟩ hF hS
    refine ⟨⟨iQ, iQ, .inr (hS.keep (sQ.n) zQ), .inr (hS.keep (sQ.n) zQ), iQ, iQ, .inr (hS.keep (sQ.n) zQ), .inr (hS.keep (sQ.n) zQ), trivial⟩, ?_⟩
    refine goW_take 10 _ rfl kQ rfl hF (hS.keep sQ zQ) (q_move rfl) ?_
    clear hF; intro a hF
    refine goW_take 11 _ rfl kQ rfl hF (hS.keep sQ zQ) (q_extract rfl rfl) ?_
    clear hF; intro a hF
    refine goW_take 12 _ rfl kQ rfl hF (hS.keep sQ zQ) (q_extract rfl rfl) ?_
    clear hF; intro a hF
    refine goW_take 13 _ rfl kQ rfl hF (hS.keep sQ zQ) (q_assign rfl) ?_
    clear hF; intro a hF
    refine goW_take 14 _ rfl kQ rfl hF (hS.keep sQ zQ) (q_assign rfl) ?_
    clear hF; intro a hF
    exact goW_done kQ (j2_mk v_9_9_1 z_9_9 ((And.intro hz_9_9 trivial)) (hF.sub (L' := [(1, _), (4, _), (5, _), (13, _), (14, _), (15, _), (16, _), (17, _), (18, _)]) ⟨rfl, rfl, rfl, rfl, rfl, rfl, rfl, rfl, rfl, trivial⟩) hS)
   rintro a w ⟨v_9_9_1, z_9_9, ⟨hz_9_9, -⟩, hF, hS⟩
   (try dsimp only at hF); (try dsimp only at hS)
   refine hK13 _ _ ?_
   clear hK13
   refine wp_seq_k ?_; intro K14 hK14
   revert hF hS; apply regJ (J := J2 (α0 := Value) (α1 := PH) 184 _ _ _ _ _) #[false, false, false, false, false, false, false, false, false, false, false, false, false, false] 14 mixed rfl rfl
   ·intro w hF hS
    refine goW_take 0 _ rfl kQ rfl hF (hS.keep sQ zQ) (q_move rfl) ?_
    clear hF; intro a hF
    refine goW_take 1 _ rfl kQ rfl hF (hS.keep sQ zQ) (q_move rfl) ?_
    clear hF; intro a hF
    refine goW_take 2 _ rfl kQ rfl hF (hS.keep sQ zQ) (q_idx_sl ty24 ty29 hsL rfl rfl (by omega)) ?_
    clear hF; intro a hF
    refine goW_take 3 _ rfl kQ rfl hF (hS.keep sQ zQ) (q_ld_lat ty29 hsL (.inr (by simp)) hcel rfl rfl (by omega)) ?_
    clear hF; intro a hF
    refine goW_take 4 _ rfl kQ rfl hF (hS.keep sQ zQ) (q_move rfl) ?_
    clear hF; intro a hF
    refine goW_take 5 _ rfl kQ rfl hF (hS.keep sQ zQ) (q_move rfl) ?_
    clear hF; intro a hF
    refine goW_take 6 _ rfl kQ rfl hF (hS.keep sQ sQ) (q_idx_row ty30 ty23 0 rfl rfl rfl (by omega)) ?_
    clear hF; intro a hF
    refine goW_take 7 _ rfl kQ rfl hF (hS.keep sQ sQ) (q_ld_rowV ty23 0 rfl rfl hk9 rfl) ?_
    clear hF; intro a hF
    refine gQ 8 rfl rfl hF hS rfl (ef_call fn21 rfl (fun w hS => rhidden_ct _ _ _ _ _ _ _ (by first | with_reducible assumption | omega) w (sl_one' hn9) (Sl.mono (hS.le (.inr (by simp))) hs9) (Sl.mono (hS.le (.inr (by simp))) hb99) (Sl.mono (hS.le (hZK.imp id (fun e => by simp [e]))) hMK))) ?_
    clear hF hS; rintro _ _ _ a w ⟨_, _, rfl, rfl, ⟨v_10_8_1, z_10_8, hz_10_8, rfl, rfl, rfl⟩⟩ hF hS
    refine ⟨⟨iQ, iQ, .inr (hS.keep (sQ.n) zQ), .inr (hS.keep (sQ.n) zQ), iQ, iQ, .inr (hS.keep (sQ.n) zQ), .inr (hS.keep (sQ.n) zQ), trivial⟩, ?_⟩
    refine goW_take 9 _ rfl kQ rfl hF (hS.keep sQ zQ) (q_move rfl) ?_
    clear hF; intro a hF
    refine goW_take 10 _ rfl kQ rfl hF (hS.keep sQ zQ) (q_extract rfl rfl) ?_
    clear hF; intro a hF
    refine goW_take 11 _ rfl kQ rfl hF (hS.keep sQ zQ) (q_extract rfl rfl) ?_
    clear hF; intro a hF
    refine goW_take 12 _ rfl kQ rfl hF (hS.keep sQ zQ) (q_assign rfl) ?_
    clear hF; intro a hF
    refine goW_take 13 _ rfl kQ rfl hF (hS.keep sQ zQ) (q_assign rfl) ?_
    clear hF; intro a hF
    exact goW_done kQ (j2_mk v_10_8_1 z_10_8 ((And.intro hz_10_8 trivial)) (hF.sub (L' := [(1, _), (4, _), (5, _), (13, _), (14, _), (15, _), (16, _), (17, _), (18, _), (19, _), (20, _)]) ⟨rfl, rfl, rfl, rfl, rfl, rfl, rfl, rfl, rfl, rfl, rfl, trivial⟩) hS)
   rintro a w ⟨v_10_8_1, z_10_8, ⟨hz_10_8, -⟩, hF, hS⟩
   (try dsimp only at hF); (try dsimp only at hS)
   refine hK14 _ _ ?_
   clear hK14
   refine wp_seq_k ?_; intro K15 hK15
   revert hF hS; apply regJ (J := J2 (α0 := Value) (α1 := PH) 184 _ _ _ _ _) #[false, false, false, false, false, false, false, false, false, false, false, false, false, false, false] 15 mixed rfl rfl
   ·intro w hF hS
    refine goW_take 0 _ rfl kQ rfl hF (hS.keep sQ zQ) (q_move rfl) ?_
    clear hF; intro a hF
    refine goW_take 1 _ rfl kQ rfl hF (hS.keep sQ zQ) (q_move rfl) ?_
    clear hF; intro a hF
    refine goW_take 2 _ rfl kQ rfl hF (hS.keep sQ zQ) (q_idx_sl ty24 ty29 hsL rfl rfl (by omega)) ?_
    clear hF; intro a hF
    refine goW_take 3 _ rfl kQ rfl hF (hS.keep sQ zQ) (q_ld_lat ty29 hsL (.inr (by simp)) hcel rfl rfl (by omega)) ?_
    clear hF; intro a hF
    refine goW_take 5 _ rfl kQ rfl hF (hS.keep sQ zQ) (q_move rfl) ?_
    clear hF; intro a hF
    refine goW_take 6 _ rfl kQ rfl hF (hS.keep sQ zQ) (q_move rfl) ?_
    clear hF; intro a hF
    refine goW_take 7 _ rfl kQ rfl hF (hS.keep sQ sQ) (q_idx_row ty30 ty23 0 rfl rfl rfl (by omega)) ?_
    clear hF; intro a hF
    refine goW_take 8 _ rfl kQ rfl hF (hS.keep sQ sQ) (q_ld_rowV ty23 0 rfl rfl hk9 rfl) ?_
    clear hF; intro a hF
    refine gQ 4 rfl rfl hF hS rfl (ef_qt (q_call fn14 rfl (fun w hS => own_ct _ _ _ _ _ w (sl_one' hn9) (Sl.mono (hS.le (.inr (by simp))) hs9) (Sl.mono (hS.le (.inr (by simp))) hb99)) (fun _ _ _ h => h))) ?_
    clear hF hS; rintro _ _ _ a w ⟨rfl, rfl, rfl⟩ hF hS
    refine ⟨⟨.inr (hS.keep sQ sQ), .inr (hS.keep sQ sQ), .inr (hS.keep sQ zQ), .inr (hS.keep sQ zQ), iQ, iQ, .inr (hS.keep sQ zQ), .inr (hS.keep sQ zQ), trivial⟩, ?_⟩
    refine gQ 9 rfl rfl hF hS rfl (ef_call fn22 rfl (fun w hS => together_ct _ _ _ _ _ _ _ (by first | with_reducible assumption | omega) w (sl_one' hn9) (Sl.mono (hS.le (.inr (by simp))) hs9) (Sl.mono (hS.le (.inr (by simp))) hb99) (Sl.mono (hS.le (hZK.imp id (fun e => by simp [e]))) hMK))) ?_
    clear hF hS; rintro _ _ _ a w ⟨_, _, rfl, rfl, ⟨v_11_9_1, z_11_9, hz_11_9, rfl, rfl, rfl⟩⟩ hF hS
    refine ⟨⟨iQ, iQ, .inr (hS.keep (sQ.n) zQ), .inr (hS.keep (sQ.n) zQ), iQ, iQ, .inr (hS.keep (sQ.n) zQ), .inr (hS.keep (sQ.n) zQ), trivial⟩, ?_⟩
    refine goW_take 10 _ rfl kQ rfl hF (hS.keep sQ zQ) (q_move rfl) ?_
    clear hF; intro a hF
    refine goW_take 11 _ rfl kQ rfl hF (hS.keep sQ zQ) (q_extract rfl rfl) ?_
    clear hF; intro a hF
    refine goW_take 12 _ rfl kQ rfl hF (hS.keep sQ zQ) (q_extract rfl rfl) ?_
    clear hF; intro a hF
    refine goW_take 13 _ rfl kQ rfl hF (hS.keep sQ zQ) (q_assign rfl) ?_
    clear hF; intro a hF
    refine goW_take 14 _ rfl kQ rfl hF (hS.keep sQ zQ) (q_assign rfl) ?_
    clear hF; intro a hF
    exact goW_done kQ (j2_mk v_11_9_1 z_11_9 ((And.intro hz_11_9 trivial)) (hF.sub (L' := [(1, _), (4, _), (5, _), (13, _), (14, _), (15, _), (16, _), (17, _), (18, _), (19, _), (20, _), (21, _), (22, _)]) ⟨rfl, rfl, rfl, rfl, rfl, rfl, rfl, rfl, rfl, rfl, rfl, rfl, rfl, trivial⟩) hS)
   rintro a w ⟨v_11_9_1, z_11_9, ⟨hz_11_9, -⟩, hF, hS⟩
   (try dsimp only at hF); (try dsimp only at hS)
   refine hK15 _ _ ?_
   clear hK15
   refine wp_seq_k ?_; intro K16 hK16
   revert hF hS; apply regJ (J := J2 (α0 := Value) (α1 := PH) 184 _ _ _ _ _) #[false, false, false, false, false, false, false, false, false, false, false, false, false, false] 14 mixed rfl rfl
   ·intro w hF hS
    refine goW_take 0 _ rfl kQ rfl hF (hS.keep sQ zQ) (q_move rfl) ?_
    clear hF; intro a hF
    refine goW_take 1 _ rfl kQ rfl hF (hS.keep sQ zQ) (q_move rfl) ?_
    clear hF; intro a hF
    refine goW_take 2 _ rfl kQ rfl hF (hS.keep sQ zQ) (q_idx_sl ty24 ty29 hsL rfl rfl (by omega)) ?_
    clear hF; intro a hF
    refine goW_take 3 _ rfl kQ rfl hF (hS.keep sQ zQ) (q_ld_lat ty29 hsL (.inr (by simp)) hcel rfl rfl (by omega)) ?_
    clear hF; intro a hF
    refine goW_take 4 _ rfl kQ rfl hF (hS.keep sQ zQ) (q_move rfl) ?_
    clear hF; intro a hF
    refine goW_take 5 _ rfl kQ rfl hF (hS.keep sQ zQ) (q_move rfl) ?_
    clear hF; intro a hF
    refine goW_take 6 _ rfl kQ rfl hF (hS.keep sQ sQ) (q_idx_row ty30 ty23 0 rfl rfl rfl (by omega)) ?_
    clear hF; intro a hF
    refine goW_take 7 _ rfl kQ rfl hF (hS.keep sQ sQ) (q_ld_rowV ty23 0 rfl rfl hk9 rfl) ?_
    clear hF; intro a hF
    refine gQ 8 rfl rfl hF hS rfl (ef_call fn23 rfl (fun w hS => rtogether_ct _ _ _ _ _ _ _ (by first | with_reducible assumption | omega) w (sl_one' hn9) (Sl.mono (hS.le (.inr (by simp))) hs9) (Sl.mono (hS.le (.inr (by simp))) hb99) (Sl.mono (hS.le (hZK.imp id (fun e => by simp [e]))) hMK))) ?_
    clear hF hS; rintro _ _ _ a w ⟨_, _, rfl, rfl, ⟨v_12_8_1, z_12_8, hz_12_8, rfl, rfl, rfl⟩⟩ hF hS
    refine ⟨⟨iQ, iQ, .inr (hS.keep (sQ.n) zQ), .inr (hS.keep (sQ.n) zQ), iQ, iQ, .inr (hS.keep (sQ.n) zQ), .inr (hS.keep (sQ.n) zQ), trivial⟩, ?_⟩
    refine goW_take 9 _ rfl kQ rfl hF (hS.keep sQ zQ) (q_move rfl) ?_
    clear hF; intro a hF
    refine goW_take 10 _ rfl kQ rfl hF (hS.keep sQ zQ) (q_extract rfl rfl) ?_
    clear hF; intro a hF
    refine goW_take 11 _ rfl kQ rfl hF (hS.keep sQ zQ) (q_extract rfl rfl) ?_
    clear hF; intro a hF
    refine goW_take 12 _ rfl kQ rfl hF (hS.keep sQ zQ) (q_assign rfl) ?_
    clear hF; intro a hF
    refine goW_take 13 _ rfl kQ rfl hF (hS.keep sQ zQ) (q_assign rfl) ?_
    clear hF; intro a hF
    exact goW_done kQ (j2_mk v_12_8_1 z_12_8 ((And.intro hz_12_8 trivial)) (hF.sub (L' := [(1, _), (4, _), (5, _), (13, _), (14, _), (15, _), (16, _), (17, _), (18, _), (19, _), (20, _), (21, _), (22, _), (23, _), (24, _)]) ⟨rfl, rfl, rfl, rfl, rfl, rfl, rfl, rfl, rfl, rfl, rfl, rfl, rfl, rfl, rfl, trivial⟩) hS)
   rintro a w ⟨v_12_8_1, z_12_8, ⟨hz_12_8, -⟩, hF, hS⟩
   (try dsimp only at hF); (try dsimp only at hS)
   refine hK16 _ _ ?_
   clear hK16
   refine wp_seq_k ?_; intro K17 hK17
   refine wp_seq_k ?_; intro K18 hK18
   refine reg hF hS (sq rfl (q_move rfl) <|
     sq rfl (q_move rfl) <|
     sq rfl (q_nf (q_nei rfl rfl) (rfl)) <|
     sq rfl (q_move rfl) <|
     sq_go 112 rfl rfl rfl (q_move rfl) <|
     sq_go 112 rfl rfl rfl (q_move rfl) <|
     sq_go 112 rfl rfl rfl (q_nf (q_nei rfl rfl) (rfl)) <|
     sq rfl (q_pick_f rfl rfl) <|
     sq rfl (q_move rfl) <|
     sq_go 117 rfl rfl rfl (q_move rfl) <|
     sq_go 117 rfl rfl rfl (q_move rfl) <|
     sq_go 117 rfl rfl rfl (q_dt (q_call fn18 rfl (fun w hS => samei_ct _ _ _ _ w (Sl.mono (hS.le (.inr (by simp))) hz_9_9) (Sl.mono (hS.le (.inr (by simp))) hz_10_8)) (fun _ _ _ h => h)) (rfl)) <|
     sq_go 117 rfl rfl rfl (q_not rfl) <|
     sq rfl (q_pick_f rfl rfl) <|
     sq rfl (q_move rfl) <|
     sq_go 123 rfl rfl rfl (q_move rfl) <|
     sq_go 123 rfl rfl rfl (q_move rfl) <|
     sq_go 123 rfl rfl rfl (q_dt (q_call fn24 rfl (fun w hS => samel_ct _ _ _ _ w (Sl.mono (hS.le (.inr (by simp))) hz_11_9) (Sl.mono (hS.le (.inr (by simp))) hz_12_8)) (fun _ _ _ h => h)) (rfl)) <|
     sq_go 123 rfl rfl rfl (q_not rfl) <|
     sq rfl (q_pick_f rfl rfl) <|
     sq_end) ?_
   clear hF hS; intro a w hF hS
   refine hK18 _ _ ?_
   clear hK18
   refine wp_if hF rfl (fun h => absurd h (by simp)) (fun _ => ?_)
   refine wp_skip ?_
   refine hK17 _ _ ?_
   clear hK17
   refine wp_seq_k ?_; intro K19 hK19
   refine regl ?_
   refine wpl_sq hF hS (sq rfl (q_move rfl) <|
     sq rfl (q_move rfl) <|
     sq rfl (q_call fn25 rfl (fun w hS => arnd_ct _ _ (by omega) (by omega) w ) (fun _ _ _ h => h)) <|
     sq_end) ?_
   clear hF hS; intro a w hF hS
   refine wpl_ef hF hS rfl (ef_bsliceA ty22 ty3 rfl rfl oQ (by decide) rfl rfl) ?_
   clear hF hS; rintro v2 _ _ a w ⟨rfl, rfl⟩ hF hS
   replace hS : St _ [_, _, _, _, _, _, _] [_, _] _ := hS
   refine wpl_sq hF hS (sq rfl (q_move rfl) <|
     sq_end) ?_
   clear hF hS; intro a w hF hS
   refine wpl_ef hF hS rfl (ef_append ty22 ty3 0 rfl rfl rfl (src_slV ty22 hz_10_8 (.inr (by simp))) bQ rfl (by decide)) ?_
   clear hF hS; rintro v4 _ _ a w ⟨rfl, rfl⟩ hF hS
   replace hS : St _ [_, _, _, _, _, _, _] [_, _] _ := hS
   refine wpl_sq hF hS (sq rfl (q_assign rfl) <|
     sq_end) ?_
   clear hF hS; intro a w hF hS
   refine wpList_nil ?_
   have har := Gu.arnd_range (n := s) (m := 32) (by decide)
   have hrg : ∀ x ∈ ([s, Gu.arnd s 32, -1] ++ Gu.hid is bs mk), -9223372036854775808 ≤ x ∧ x ≤ 9223372036854775807 := by
    intro x hx
    simp only [List.cons_append, List.nil_append, List.mem_cons] at hx
    rcases hx with rfl | rfl | rfl | hx
    ·exact hs99
    ·omega
    ·omega
    ·exact sl_rng hs9 x (Gu.hid_mem x hx)
   obtain ⟨ss, hss⟩ : ∃ ss, ss = ([s, Gu.arnd s 32, -1] ++ Gu.hid is bs mk) := ⟨_, rfl⟩
   have hsl9 : ss.length = 3 + (Gu.hid is bs mk).length := by rw [hss]; simp; omega
   rw [← hss] at hrg
   replace hS := hS.rowEq (m' := ss.length) (cs' := ss.map vi) (by rw [hss]; simp; omega) (by rw [hss]; simp)
   obtain ⟨z5, hz6, hS⟩ := St.freezeV (h0 := fun _ => rfl) (f := vi) (p := fun x => -9223372036854775808 ≤ x ∧ x ≤ 9223372036854775807) (xs := ss) hS rfl (by omega) hrg
   replace hS : St _ [_, _, _, _, _, _, _, _] [_] _ := hS
   refine hK19 _ _ ?_
   clear hK19
   refine wp_seq_k ?_; intro K20 hK20
   refine reg hF hS (sq rfl (q_assign rfl) <|
     sq_end) ?_
   clear hF hS; intro a w hF hS
   refine hK20 _ _ ?_
   clear hK20
   refine wp_block ?_
   obtain ⟨hs0, hhs0, hS⟩ : ∃ h, h = _ ∧ St _ _ h _ := ⟨_, rfl, hS⟩
   refine wp_loopx (γ := Int) (0) (fun (j : Int) => [(26, vi j)]) [(1, _), (4, _), (5, _), (13, _), (14, _), (15, _), (16, _), (25, _)] (fun (j : Int) => hs0) (fun (j : Int) => 0 ≤ j ∧ j ≤ ss.length) (fun (j : Int) => (ss.length - j).toNat) (hF.sub ⟨rfl, rfl, rfl, rfl, rfl, rfl, rfl, rfl, rfl, trivial⟩) (by subst hhs0; exact hS) (by exact ⟨Int.le_refl _, by omega⟩) ?_
   clear hF hS; rintro j a w hfact hF hS
   subst hhs0; (try dsimp only at hfact); (try dsimp only at hF); (try dsimp only at hS)
   obtain ⟨hj0, hj1⟩ := hfact
   replace hS : St _ [_, _, _, _, _, _, _, _] [_] _ := hS
   refine wp_seq_k ?_; intro K21 hK21
   refine wp_seq_k ?_; intro K22 hK22
   refine reg hF hS (sq rfl (q_move rfl) <|
     sq rfl (q_move rfl) <|
     sq rfl (q_len_sl ty22 hz6 rfl) <|
     sq rfl (q_lti rfl rfl) <|
     sq_end) ?_
   clear hF hS; intro a w hF hS
   refine hK22 _ _ ?_
   clear hK22
   refine wp_ifd hF rfl (fun hc4 => ?_) (fun hc4 => ?_)
   ·refine wp_skip ?_
    refine hK21 _ _ ?_
    clear hK21
    refine wp_seq_k ?_; intro K23 hK23
    refine wp_block ?_
    refine wp_seq_k ?_; intro K24 hK24
    revert hF hS; apply regJ (J := J2 (α0 := Value) (α1 := PH) 184 _ _ _ _ _) #[false, false, false, false, false, false, false, false, false, false, false, false, false, false, false, false, false, false, false] 19 mixed rfl rfl
    ·intro w hF hS
     refine goW_take 0 _ rfl kQ rfl hF (hS.keep sQ zQ) (q_move rfl) ?_
     clear hF; intro a hF
     refine goW_take 1 _ rfl kQ rfl hF (hS.keep sQ zQ) (q_move rfl) ?_
     clear hF; intro a hF
     refine goW_take 2 _ rfl kQ rfl hF (hS.keep sQ zQ) (q_idx_sl ty24 ty29 hsL rfl rfl (by omega)) ?_
     clear hF; intro a hF
     refine goW_take 3 _ rfl kQ rfl hF (hS.keep sQ zQ) (q_ld_lat ty29 hsL (.inr (by simp)) hcel rfl rfl (by omega)) ?_
     clear hF; intro a hF
     refine goW_take 5 _ rfl kQ rfl hF (hS.keep sQ zQ) (q_move rfl) ?_
     clear hF; intro a hF
     refine goW_take 6 _ rfl kQ rfl hF (hS.keep sQ zQ) (q_move rfl) ?_
     clear hF; intro a hF
     refine goW_take 7 _ rfl kQ rfl hF (hS.keep sQ sQ) (q_idx_row ty30 ty23 0 rfl rfl rfl (by omega)) ?_
     clear hF; intro a hF
     refine goW_take 8 _ rfl kQ rfl hF (hS.keep sQ sQ) (q_ld_rowV ty23 0 rfl rfl hk9 rfl) ?_
     clear hF; intro a hF
     refine goW_take 9 _ rfl kQ rfl hF (hS.keep sQ zQ) (q_move rfl) ?_
     clear hF; intro a hF
     refine goW_take 10 _ rfl kQ rfl hF (hS.keep sQ zQ) (q_move rfl) ?_
     clear hF; intro a hF
     refine goW_take 11 _ rfl kQ rfl hF (hS.keep sQ zQ) (q_idx_sl ty22 ty3 hz6 rfl rfl (by omega)) ?_
     clear hF; intro a hF
     refine goW_take 12 _ rfl kQ rfl hF (hS.keep sQ zQ) (q_ld_I ty3 hz6 (.inr (by simp)) rfl rfl (by omega)) ?_
     clear hF; intro a hF
     refine gQ 4 rfl rfl hF hS rfl (ef_qt (q_call fn14 rfl (fun w hS => own_ct _ _ _ _ _ w (sl_one' hn9) (Sl.mono (hS.le (.inr (by simp))) hs9) (Sl.mono (hS.le (.inr (by simp))) hb99)) (fun _ _ _ h => h))) ?_
     clear hF hS; rintro _ _ _ a w ⟨rfl, rfl, rfl⟩ hF hS
     refine ⟨⟨.inr (hS.keep sQ zQ), .inr (hS.keep sQ zQ), .inr (hS.keep sQ zQ), .inr (hS.keep sQ zQ), .inr (hS.keep sQ sQ), .inr (hS.keep sQ sQ), .inr (hS.keep sQ zQ), .inr (hS.keep sQ zQ), iQ, iQ, .inr (hS.keep sQ zQ), .inr (hS.keep sQ zQ), trivial⟩, ?_⟩
     refine gQ 13 rfl rfl hF hS rfl (ef_call fn26 rfl (fun w hS => hides_ct _ _ _ _ _ _ _ _ (by first | with_reducible assumption | omega) w (sl_one' hn9) (Sl.mono (hS.le (.inr (by simp))) hs9) (Sl.mono (hS.le (.inr (by simp))) hb99) (Sl.mono (hS.le (hZK.imp id (fun e => by simp [e]))) hMK))) ?_
     clear hF hS; rintro _ _ _ a w ⟨_, _, rfl, rfl, ⟨v_19_13_1, z_19_13, hz_19_13, rfl, rfl, rfl⟩⟩ hF hS
     refine ⟨⟨iQ, iQ, .inr (hS.keep (sQ.n) zQ), .inr (hS.keep (sQ.n) zQ), iQ, iQ, .inr (hS.keep (sQ.n) zQ), .inr (hS.keep (sQ.n) zQ), iQ, iQ, .inr (hS.keep (sQ.n) zQ), .inr (hS.keep (sQ.n) zQ), trivial⟩, ?_⟩
     refine goW_take 14 _ rfl kQ rfl hF (hS.keep sQ zQ) (q_move rfl) ?_
     clear hF; intro a hF
     refine goW_take 15 _ rfl kQ rfl hF (hS.keep sQ zQ) (q_extract rfl rfl) ?_
     clear hF; intro a hF
     refine goW_take 16 _ rfl kQ rfl hF (hS.keep sQ zQ) (q_extract rfl rfl) ?_
     clear hF; intro a hF
     refine goW_take 17 _ rfl kQ rfl hF (hS.keep sQ zQ) (q_assign rfl) ?_
     clear hF; intro a hF
     refine goW_take 18 _ rfl kQ rfl hF (hS.keep sQ zQ) (q_assign rfl) ?_
     clear hF; intro a hF
     exact goW_done kQ (j2_mk v_19_13_1 z_19_13 ((And.intro hz_19_13 trivial)) (hF.sub (L' := [(1, _), (4, _), (5, _), (13, _), (14, _), (15, _), (16, _), (25, _), (26, _), (27, _), (28, _)]) ⟨rfl, rfl, rfl, rfl, rfl, rfl, rfl, rfl, rfl, rfl, rfl, trivial⟩) hS)
    rintro a w ⟨v_19_13_1, z_19_13, ⟨hz_19_13, -⟩, hF, hS⟩
    (try dsimp only at hF); (try dsimp only at hS)
    refine hK24 _ _ ?_
    clear hK24
    refine wp_seq_k ?_; intro K25 hK25
    revert hF hS; apply regJ (J := J2 (α0 := Value) (α1 := PH) 184 _ _ _ _ _) #[false, false, false, false, false, false, false, false, false, false, false, false, false, false, false, false, false, false] 18 mixed rfl rfl
    ·intro w hF hS
     refine goW_take 0 _ rfl kQ rfl hF (hS.keep sQ zQ) (q_move rfl) ?_
     clear hF; intro a hF
     refine goW_take 1 _ rfl kQ rfl hF (hS.keep sQ zQ) (q_move rfl) ?_
     clear hF; intro a hF
     refine goW_take 2 _ rfl kQ rfl hF (hS.keep sQ zQ) (q_idx_sl ty24 ty29 hsL rfl rfl (by omega)) ?_
     clear hF; intro a hF
     refine goW_take 3 _ rfl kQ rfl hF (hS.keep sQ zQ) (q_ld_lat ty29 hsL (.inr (by simp)) hcel rfl rfl (by omega)) ?_
     clear hF; intro a hF
     refine goW_take 4 _ rfl kQ rfl hF (hS.keep sQ zQ) (q_move rfl) ?_
     clear hF; intro a hF
     refine goW_take 5 _ rfl kQ rfl hF (hS.keep sQ zQ) (q_move rfl) ?_
     clear hF; intro a hF
     refine goW_take 6 _ rfl kQ rfl hF (hS.keep sQ sQ) (q_idx_row ty30 ty23 0 rfl rfl rfl (by omega)) ?_
     clear hF; intro a hF
     refine goW_take 7 _ rfl kQ rfl hF (hS.keep sQ sQ) (q_ld_rowV ty23 0 rfl rfl hk9 rfl) ?_
     clear hF; intro a hF
     refine goW_take 8 _ rfl kQ rfl hF (hS.keep sQ zQ) (q_move rfl) ?_
     clear hF; intro a hF
     refine goW_take 9 _ rfl kQ rfl hF (hS.keep sQ zQ) (q_move rfl) ?_
     clear hF; intro a hF
     refine goW_take 10 _ rfl kQ rfl hF (hS.keep sQ zQ) (q_idx_sl ty22 ty3 hz6 rfl rfl (by omega)) ?_
     clear hF; intro a hF
     refine goW_take 11 _ rfl kQ rfl hF (hS.keep sQ zQ) (q_ld_I ty3 hz6 (.inr (by simp)) rfl rfl (by omega)) ?_
     clear hF; intro a hF
     refine gQ 12 rfl rfl hF hS rfl (ef_call fn27 rfl (fun w hS => rhides_ct _ _ _ _ _ _ _ _ (by first | with_reducible assumption | omega) w (sl_one' hn9) (Sl.mono (hS.le (.inr (by simp))) hs9) (Sl.mono (hS.le (.inr (by simp))) hb99) (Sl.mono (hS.le (hZK.imp id (fun e => by simp [e]))) hMK))) ?_
     clear hF hS; rintro _ _ _ a w ⟨_, _, rfl, rfl, ⟨v_20_12_1, z_20_12, hz_20_12, rfl, rfl, rfl⟩⟩ hF hS
     refine ⟨⟨iQ, iQ, .inr (hS.keep (sQ.n) zQ), .inr (hS.keep (sQ.n) zQ), iQ, iQ, .inr (hS.keep (sQ.n) zQ), .inr (hS.keep (sQ.n) zQ), iQ, iQ, .inr (hS.keep (sQ.n) zQ), .inr (hS.keep (sQ.n) zQ), trivial⟩, ?_⟩
     refine goW_take 13 _ rfl kQ rfl hF (hS.keep sQ zQ) (q_move rfl) ?_
     clear hF; intro a hF
     refine goW_take 14 _ rfl kQ rfl hF (hS.keep sQ zQ) (q_extract rfl rfl) ?_
     clear hF; intro a hF
     refine goW_take 15 _ rfl kQ rfl hF (hS.keep sQ zQ) (q_extract rfl rfl) ?_
     clear hF; intro a hF
     refine goW_take 16 _ rfl kQ rfl hF (hS.keep sQ zQ) (q_assign rfl) ?_
     clear hF; intro a hF
     refine goW_take 17 _ rfl kQ rfl hF (hS.keep sQ zQ) (q_assign rfl) ?_
     clear hF; intro a hF
     exact goW_done kQ (j2_mk v_20_12_1 z_20_12 ((And.intro hz_20_12 trivial)) (hF.sub (L' := [(1, _), (4, _), (5, _), (13, _), (14, _), (15, _), (16, _), (25, _), (26, _), (27, _), (28, _), (29, _), (30, _)]) ⟨rfl, rfl, rfl, rfl, rfl, rfl, rfl, rfl, rfl, rfl, rfl, rfl, rfl, trivial⟩) hS)
    rintro a w ⟨v_20_12_1, z_20_12, ⟨hz_20_12, -⟩, hF, hS⟩
    (try dsimp only at hF); (try dsimp only at hS)
    refine hK25 _ _ ?_
    clear hK25
    refine wp_seq_k ?_; intro K26 hK26
    refine reg hF hS (sq rfl (q_move rfl) <|
      sq rfl (q_move rfl) <|
      sq rfl (q_nf (q_nei rfl rfl) (rfl)) <|
      sq rfl (q_move rfl) <|
      sq_go 177 rfl rfl rfl (q_move rfl) <|
      sq_go 177 rfl rfl rfl (q_move rfl) <|
      sq_go 177 rfl rfl rfl (q_dt (q_call fn18 rfl (fun w hS => samei_ct _ _ _ _ w (Sl.mono (hS.le (.inr (by simp))) hz_19_13) (Sl.mono (hS.le (.inr (by simp))) hz_20_12)) (fun _ _ _ h => h)) (rfl)) <|
      sq_go 177 rfl rfl rfl (q_not rfl) <|
      sq rfl (q_pick_f rfl rfl) <|
      sq_end) ?_
    clear hF hS; intro a w hF hS
    refine hK26 _ _ ?_
    clear hK26
    refine wp_if hF rfl (fun h => absurd h (by simp)) (fun _ => ?_)
    refine wp_skip ?_
    refine hK23 _ _ ?_
    clear hK23
    refine reg hF hS (sq rfl (q_move rfl) <|
      sq rfl (q_addi rfl rfl (by omega)) <|
      sq rfl (q_assign rfl) <|
      sq_end) ?_
    clear hF hS; intro a w hF hS
    replace hS := hS.keep (sQ.n.n) sQ
    refine ⟨(j + 1), ?_, ?_, hF.sub ⟨rfl, rfl, rfl, rfl, rfl, rfl, rfl, rfl, rfl, trivial⟩, ?_⟩
    ·(try dsimp only); omega
    ·(try dsimp only); omega
    ·exact hS
   ·refine wp_exit ?_
    refine hK12 _ _ ?_
    clear hK12
    refine reg hF hS (sq rfl (q_move rfl) <|
      sq rfl (q_addi rfl rfl (by omega)) <|
      sq rfl (q_assign rfl) <|
      sq_end) ?_
    clear hF hS; intro a w hF hS
    replace hS := hS.keep (sQ.n.n.n.n.n) sQ
    refine ⟨(k + 1), ?_, ?_, hF.sub ⟨rfl, rfl, rfl, rfl, rfl, rfl, rfl, trivial⟩, ?_⟩
    ·(try dsimp only); omega
    ·(try dsimp only); omega
    ·exact hS
  ·refine wp_exit ?_
   refine hK7 _ _ ?_
   clear hK7
   refine reg hF hS (sq rfl (q_move rfl) <|
     sq rfl (q_addi rfl rfl (by omega)) <|
     sq rfl (q_assign rfl) <|
     sq_end) ?_
   clear hF hS; intro a w hF hS
   replace hS := hS.keep (sQ.n.n) zQ
   refine ⟨(i + 1), ?_, ?_, hF.sub ⟨rfl, rfl, rfl, rfl, rfl, trivial⟩, ?_⟩
   ·(try dsimp only); omega
   ·(try dsimp only); omega
   ·exact hS
 ·refine wp_exit ?_
  refine hK3 _ _ ?_
  clear hK3
  refine wp_seq_k ?_; intro K27 hK27
  refine reg hF hS (sq rfl (q_call fn19 rfl (fun w hS => lives_ct w ) (fun _ _ _ h => h)) <|
    sq rfl (q_assign rfl) <|
    sq_end) ?_
  clear hF hS; intro a w hF hS
  refine hK27 _ _ ?_
  clear hK27
  refine wp_ret ?_
  exact fn_ret (rs := [.tmp 12]) rfl hF hS (vs := [_]) ⟨rfl, trivial⟩ zQ zQ (rfl)
end Go.Proofs.Ytcbjemjohacbpaa
