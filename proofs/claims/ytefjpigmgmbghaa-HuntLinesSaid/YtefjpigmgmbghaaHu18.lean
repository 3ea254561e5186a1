/- A text of a proof over this seat: walks over the program's functions and the plain laws that they need. -/
import Derived.Test.YtefjpigmgmbghaaHu17
import Derived.Test.YtefjpigmgmbghaaHpA
import Derived.Test.YtefjpigmgmbghaaFwD
import Derived.Test.YtefjpigmgmbghaaFwB
set_option linter.all false
namespace Go.Proofs.Ytefjpigmgmbghaa
open Go.Fw
theorem ty75 : Tf Try.prog 75 (.slice 22) 1 24 (Value.slice none 0 0) := ⟨Try.underlying75, by kernel_rfl⟩
theorem fn38 : FnOk Try.prog 38 := ⟨_, Try.func38, rfl, by kernel_rfl⟩
theorem fn39 : FnOk Try.prog 39 := ⟨_, Try.func39, rfl, by kernel_rfl⟩
theorem fn42 : FnOk Try.prog 42 := ⟨_, Try.func42, rfl, by kernel_rfl⟩

set_option maxRecDepth 4000 in
set_option maxHeartbeats 2000000 in
theorem law34_ct (v : Value) (l : List Int) (v2 : Value) (m : List Int) (v3 : Value) (n : List Int) (v4 : Value) (o : List Int) (h : Int) (hh9 : -9223372036854775808 ≤ h ∧ h ≤ 9223372036854775807) (b : Int) (hb9 : -9223372036854775808 ≤ b ∧ b ≤ 9223372036854775807) (v7 : Value) (rw_ : List Int) (w : World) (hl : Sl encI (ph w) v l) (hm : Sl encI (ph w) v2 m) (hn : Sl encI (ph w) v3 n) (ho : Sl encI (ph w) v4 o) (hr : Sl encI (ph w) v7 rw_) : Ct Try.prog 6 [v, v2, v3, v4, vi h, vi b, v7] w (fun r _ _ => r = .bool true) := by
 refine fn_enter Try.func6 rfl Try.ntmps6 (Nat.le_of_ble_eq_true rfl) fun a hF hS => ?_
 have hrl := hr.1
 refine wp_seq_k ?_; intro K1 hK1
 refine reg hF hS (sq rfl (q_assign rfl) <|
   sq_end) ?_
 clear hF hS; intro a w hF hS
 refine hK1 _ _ ?_
 clear hK1
 refine wp_seq_k ?_; intro K2 hK2
 refine regl ?_
 refine wpl_sq hF hS (sq rfl (q_move rfl) <|
   sq_end) ?_
 clear hF hS; intro a w hF hS
 refine wpl_ef hF hS rfl (ef_call fn10 rfl (fun w hS => family_ct _ _ w (Sl.mono (hS.le zin0) hl))) ?_
 clear hF hS; rintro _ _ _ a w ⟨_, _, rfl, rfl, ⟨nvF, svF, bvF, ns, xs, xb, zF, rfl, hnF, hsF, hbF, lnF, lsF, lbF, leqF, rfl, rfl⟩⟩ hF hS
 replace hS : St _ [_] [] _ := hS
 refine wpl_ef hF hS rfl (ef_allocA ty26) ?_
 clear hF hS; rintro _ _ _ a w ⟨b2, rfl, rfl, rfl⟩ hF hS
 refine wpl_ef hF hS rfl (ef_storeW ty26 0 rfl rfl rfl rfl bQ (oc_cons (sl_one' hnF) (oc_cons (sl_one' hsF) (oc_cons (sl_one' hbF) oc_nil))) bQ) ?_
 clear hF hS; rintro _ _ _ a w ⟨rfl, rfl, rfl⟩ hF hS
 replace hS : St _ [_] [_] _ := hS
 refine wpList_nil ?_
 refine hK2 _ _ ?_
 clear hK2
 refine wp_seq_k ?_; intro K3 hK3
 refine regl ?_
 refine wpl_sq hF hS (sq rfl (q_ld_blkW ty26 0 rfl rfl bQ rfl) <|
   sq rfl (q_move rfl) <|
   sq_end) ?_
 clear hF hS; intro a w hF hS
 refine wpl_ef hF hS rfl (ef_call fn11 rfl (fun w hS => keys_ct _ _ _ _ _ _ _ (by first | with_reducible assumption | omega) w (sl_one' hnF) (Sl.mono (hS.le (.inr (by simp))) hsF) (Sl.mono (hS.le (.inr (by simp))) hbF) (Sl.mono (hS.le zin0) hm))) ?_
 clear hF hS; rintro v3 _ _ a w ⟨_, _, rfl, rfl, ⟨zY, hzY, rfl, rfl⟩⟩ hF hS
 replace hS : St _ [_, _] [_] _ := hS
 refine wpl_sq hF hS (sq rfl (q_assign rfl) <|
   sq_end) ?_
 clear hF hS; intro a w hF hS
 refine wpList_nil ?_
 obtain ⟨heq, hfam, hx0⟩ := leqF
 obtain ⟨ks, hks⟩ : ∃ ks, ks = Hu.kyl m xs.length := ⟨_, rfl⟩
 have hkl9 : ks.length = xs.length := by rw [hks, Hu.kyl_len]
 rw [← hks] at hzY
 refine hK3 _ _ ?_
 clear hK3
 refine wp_seq_k ?_; intro K4 hK4
 revert hS; revert hF; apply regJ (J := J6 (α0 := Value) (α1 := PH) (α2 := Value) (α3 := Value) (α4 := PH) (α5 := Nat) 160 _ _ _ _ _) #[false, false, false, false, false, false, false, false, false] 9 mixed rfl rfl
 ·intro w hF hS
  refine goW_take 0 _ rfl kQ rfl hF (hS.keep sQ sQ) (q_ld_blkW ty26 0 rfl rfl bQ rfl) ?_
  clear hF; intro a hF
  refine goW_take 1 _ rfl kQ rfl hF (hS.keep sQ zQ) (q_move rfl) ?_
  clear hF; intro a hF
  refine goW_take 2 _ rfl kQ rfl hF (hS.keep sQ zQ) (q_move rfl) ?_
  clear hF; intro a hF
  refine goW_take 3 _ rfl kQ rfl hF (hS.keep sQ zQ) (q_move rfl) ?_
  clear hF; intro a hF
  refine goW_take 5 _ rfl kQ rfl hF (hS.keep sQ zQ) (q_move rfl) ?_
  clear hF; intro a hF
  refine goW_fork [4, 7] kQ rfl ⟨?_, ?_, trivial⟩
  ·refine stepW_ef _ rfl rfl hF hS rfl (ef_call fn13 rfl (fun w hS => truth_ct _ _ _ _ (by first | with_reducible assumption | omega) w (Sl.mono (hS.le (.inr (by simp))) hzY) (Sl.mono (hS.le zin0) hn))) ?_
   clear hF hS; rintro v_3_4 _ _ a w ⟨_, _, rfl, rfl, ⟨zU, hzU, rfl, rfl⟩⟩ hF hS
   refine ⟨⟨.inr (hS.keep (sQ.n) zQ), iQ, iQ, .inr (hS.keep (sQ.n) zQ), .inr (hS.keep (sQ.n) sQ), trivial⟩, ?_⟩
   refine goW_fork [6, 7] kQ rfl ⟨?_, ?_, trivial⟩
   ·refine stepW_ef _ rfl rfl hF hS rfl (ef_call fn12 rfl (fun w hS => marked_ct _ _ _ _ _ _ _ _ _ _ _ (by omega) w (sl_one' hnF) (Sl.mono (hS.le (.inr (by simp))) hsF) (Sl.mono (hS.le (.inr (by simp))) hbF) (Sl.mono (hS.le (.inr (by simp))) hzY) (Sl.mono (hS.le (.inr (by simp))) hzU) (Sl.mono (hS.le zin0) ho))) ?_
    clear hF hS; rintro _ _ _ a w ⟨_, _, rfl, rfl, ⟨kM, mM, zM, rfl, hkM, hmM, rfl, rfl⟩⟩ hF hS
    refine ⟨⟨iQ, iQ, iQ, iQ, iQ, trivial⟩, ?_⟩
    refine gQ 7 rfl rfl hF hS rfl (ef_allocA ty31) ?_
    clear hF hS; rintro _ _ _ a w ⟨b_3_7, rfl, rfl, rfl⟩ hF hS
    refine ⟨⟨iQ, iQ, iQ, iQ, iQ, trivial⟩, ?_⟩
    refine gQ 8 rfl rfl hF hS rfl (ef_storeW ty31 0 rfl rfl rfl rfl bQ (oc_cons (sl_one' hkM) (oc_cons (sl_one' hmM) oc_nil)) bQ) ?_
    clear hF hS; rintro _ _ _ a w ⟨rfl, rfl, rfl⟩ hF hS
    refine ⟨⟨iQ, iQ, iQ, iQ, iQ, trivial⟩, ?_⟩
    exact goW_done kQ (j6_mk v_3_4 zU kM mM zM b_3_7 ((And.intro hzU (And.intro hkM (And.intro hmM trivial)))) (hF.sub (L' := [(4, _), (5, _), (6, _), (15, _), (17, _)]) ⟨rfl, rfl, rfl, rfl, rfl, trivial⟩) hS)
   ·refine stepW_ef _ rfl rfl hF hS rfl (ef_allocA ty31) ?_
    clear hF hS; rintro _ _ _ a w ⟨b_3_7, rfl, rfl, rfl⟩ hF hS
    refine ⟨⟨.inr (hS.keep (sQ.n) zQ), iQ, iQ, .inr (hS.keep (sQ.n) zQ), .inr (hS.keep (sQ.n) (sQ.n)), trivial⟩, ?_⟩
    refine gQ 6 rfl rfl hF hS rfl (ef_call fn12 rfl (fun w hS => marked_ct _ _ _ _ _ _ _ _ _ _ _ (by omega) w (sl_one' hnF) (Sl.mono (hS.le (.inr (by simp))) hsF) (Sl.mono (hS.le (.inr (by simp))) hbF) (Sl.mono (hS.le (.inr (by simp))) hzY) (Sl.mono (hS.le (.inr (by simp))) hzU) (Sl.mono (hS.le zin0) ho))) ?_
    clear hF hS; rintro _ _ _ a w ⟨_, _, rfl, rfl, ⟨kM, mM, zM, rfl, hkM, hmM, rfl, rfl⟩⟩ hF hS
    refine ⟨⟨iQ, iQ, iQ, iQ, iQ, trivial⟩, ?_⟩
    refine gQ 8 rfl rfl hF hS rfl (ef_storeW ty31 0 rfl rfl rfl rfl bQ (oc_cons (sl_one' hkM) (oc_cons (sl_one' hmM) oc_nil)) bQ) ?_
    clear hF hS; rintro _ _ _ a w ⟨rfl, rfl, rfl⟩ hF hS
    refine ⟨⟨iQ, iQ, iQ, iQ, iQ, trivial⟩, ?_⟩
    exact goW_done kQ (j6_mk v_3_4 zU kM mM zM b_3_7 ((And.intro hzU (And.intro hkM (And.intro hmM trivial)))) (hF.sub (L' := [(4, _), (5, _), (6, _), (15, _), (17, _)]) ⟨rfl, rfl, rfl, rfl, rfl, trivial⟩) hS)
  ·refine stepW_ef _ rfl rfl hF hS rfl (ef_allocA ty31) ?_
   clear hF hS; rintro _ _ _ a w ⟨b_3_7, rfl, rfl, rfl⟩ hF hS
   refine ⟨⟨.inr (hS.keep sQ zQ), .inr (hS.keep sQ zQ), .inr (hS.keep sQ zQ), .inr (hS.keep sQ zQ), .inr (hS.keep sQ (sQ.n)), trivial⟩, ?_⟩
   refine gQ 4 rfl rfl hF hS rfl (ef_call fn13 rfl (fun w hS => truth_ct _ _ _ _ (by first | with_reducible assumption | omega) w (Sl.mono (hS.le (.inr (by simp))) hzY) (Sl.mono (hS.le zin0) hn))) ?_
   clear hF hS; rintro v_3_4 _ _ a w ⟨_, _, rfl, rfl, ⟨zU, hzU, rfl, rfl⟩⟩ hF hS
   refine ⟨⟨.inr (hS.keep (sQ.n) zQ), iQ, iQ, .inr (hS.keep (sQ.n) zQ), .inr (hS.keep (sQ.n) (sQ.n)), trivial⟩, ?_⟩
   refine gQ 6 rfl rfl hF hS rfl (ef_call fn12 rfl (fun w hS => marked_ct _ _ _ _ _ _ _ _ _ _ _ (by omega) w (sl_one' hnF) (Sl.mono (hS.le (.inr (by simp))) hsF) (Sl.mono (hS.le (.inr (by simp))) hbF) (Sl.mono (hS.le (.inr (by simp))) hzY) (Sl.mono (hS.le (.inr (by simp))) hzU) (Sl.mono (hS.le zin0) ho))) ?_
   clear hF hS; rintro _ _ _ a w ⟨_, _, rfl, rfl, ⟨kM, mM, zM, rfl, hkM, hmM, rfl, rfl⟩⟩ hF hS
   refine ⟨⟨iQ, iQ, iQ, iQ, iQ, trivial⟩, ?_⟩
   refine gQ 8 rfl rfl hF hS rfl (ef_storeW ty31 0 rfl rfl rfl rfl bQ (oc_cons (sl_one' hkM) (oc_cons (sl_one' hmM) oc_nil)) bQ) ?_
   clear hF hS; rintro _ _ _ a w ⟨rfl, rfl, rfl⟩ hF hS
   refine ⟨⟨iQ, iQ, iQ, iQ, iQ, trivial⟩, ?_⟩
   exact goW_done kQ (j6_mk v_3_4 zU kM mM zM b_3_7 ((And.intro hzU (And.intro hkM (And.intro hmM trivial)))) (hF.sub (L' := [(4, _), (5, _), (6, _), (15, _), (17, _)]) ⟨rfl, rfl, rfl, rfl, rfl, trivial⟩) hS)
 rintro a w ⟨v_3_4, zU, kM, mM, zM, b_3_7, ⟨hzU, hkM, hmM, -⟩, hF, hS⟩
 (try dsimp only at hF); (try dsimp only at hS)
 obtain ⟨KM, hKM⟩ : ∃ x, x = Hu.mkK xs xb ks (Hu.tru n ks ks.length) o := ⟨_, rfl⟩
 rw [← hKM] at hkM hmM
 have hKl := Hu.mkS_len xs xb ks (Hu.tru n ks ks.length) o (Hu.mkN xs xb ks (Hu.tru n ks ks.length))
 rw [show Hu.mkS xs xb ks (Hu.tru n ks ks.length) o (Hu.mkN xs xb ks (Hu.tru n ks ks.length)) = KM from hKM.symm] at hKl
 have hpw := Hu.pw32 lnF
 refine hK4 _ _ ?_
 clear hK4
 refine wp_seq_k ?_; intro K5 hK5
 refine reg hF hS (sq rfl (q_ld_blkW ty26 1 rfl rfl bQ rfl) <|
   sq rfl (q_fieldAddr ty26 rfl rfl (s' := 0) kQ) <|
   sq rfl (q_ld_blk1 ty23 1 rfl rfl rfl rfl) <|
   sq rfl (q_len_sl ty23 hnF rfl) <|
   sq rfl (q_cv_iq ty3 ty72 rfl) <|
   sq rfl (q_shli rfl rfl (by omega) (by omega)) <|
   sq rfl (q_subi rfl rfl (by omega)) <|
   sq rfl (q_call fn38 rfl (fun w hS => rclosure_ct _ _ _ _ _ _ w (sl_one' hnF) (Sl.mono (hS.le (.inr (by simp))) hsF) (Sl.mono (hS.le (.inr (by simp))) hbF)) (fun _ _ _ h => h)) <|
   sq rfl (q_assign rfl) <|
   sq_end) ?_
 clear hF hS; intro a w hF hS
 refine hK5 _ _ ?_
 clear hK5
 refine wp_seq_k ?_; intro K6 hK6
 refine regl ?_
 refine wpl_sq hF hS (sq rfl (q_ld_blkW ty26 1 rfl rfl bQ rfl) <|
   sq rfl (q_move rfl) <|
   sq_end) ?_
 clear hF hS; intro a w hF hS
 refine wpl_ef hF hS rfl (ef_call fn39 rfl (fun w hS => rpath_ct _ _ _ _ _ _ _ (by omega) w (sl_one' hnF) (Sl.mono (hS.le (.inr (by simp))) hsF) (Sl.mono (hS.le (.inr (by simp))) hbF))) ?_
 clear hF hS; rintro _ _ _ a w ⟨_, _, rfl, rfl, ⟨vP, p9, eP, zP, rfl, hzP, hpP, rfl, rfl⟩⟩ hF hS
 replace hS : St _ [_, _, _, _, _] [_, _] _ := hS
 refine wpl_sq hF hS (sq rfl (q_move rfl) <|
   sq rfl (q_extract rfl rfl) <|
   sq rfl (q_extract rfl rfl) <|
   sq rfl (q_assign rfl) <|
   sq rfl (q_assign rfl) <|
   sq_end) ?_
 clear hF hS; intro a w hF hS
 refine wpList_nil ?_
 refine hK6 _ _ ?_
 clear hK6
 refine wp_seq_k ?_; intro K7 hK7
 revert hS; revert hF; apply regJ (J := J6 (α0 := Value) (α1 := Value) (α2 := List (List UInt8)) (α3 := List Int) (α4 := PH) (α5 := Value) 160 _ _ _ _ _) #[false, false, false, false, false, false, false] 7 mixed rfl rfl
 ·intro w hF hS
  refine goW_take 0 _ rfl kQ rfl hF (hS.keep sQ (zQ.k)) (q_ld_blkW ty31 0 rfl rfl bQ rfl) ?_
  clear hF; intro a hF
  refine goW_take 1 _ rfl kQ rfl hF (hS.keep sQ (zQ.k)) (q_ld_blkW ty31 0 rfl rfl bQ rfl) ?_
  clear hF; intro a hF
  refine goW_take 2 _ rfl kQ rfl hF (hS.keep sQ zQ) (q_move rfl) ?_
  clear hF; intro a hF
  refine goW_take 3 _ rfl kQ rfl hF (hS.keep sQ zQ) (q_move rfl) ?_
  clear hF; intro a hF
  refine gQ 4 rfl rfl hF hS rfl (ef_call fn15 rfl (fun w hS => oddk_ct _ _ _ _ _ _ (by omega) (by omega) (by omega) w (Sl.mono (hS.le (.inr (by simp))) hkM) (Sl.mono (hS.le (.inr (by simp))) hmM))) ?_
  clear hF hS; rintro _ _ _ a w ⟨_, _, rfl, rfl, ⟨kO, mO, KO, MO, zO9, rfl, hkO, hmO, rfl, rfl⟩⟩ hF hS
  refine ⟨⟨iQ, iQ, iQ, .inr (hS.keep (sQ.n) (zQ.k)), trivial⟩, ?_⟩
  refine gQ 5 rfl rfl hF hS rfl (ef_bsliceC ty37 ty31 [[_, _], [_, _]] rfl rfl (by simp) (oc2_cons (oc_cons (sl_one' hkM) (oc_cons (sl_one' hmM) oc_nil)) (oc2_cons (oc_cons (sl_one' hkO) (oc_cons (sl_one' hmO) oc_nil)) oc2_nil)) (by decide) rfl rfl) ?_
  clear hF hS; rintro v_6_5 _ _ a w ⟨rfl, rfl⟩ hF hS
  refine ⟨⟨iQ, iQ, iQ, iQ, trivial⟩, ?_⟩
  refine goW_take 6 _ rfl kQ rfl hF (hS.keep sQ zQ) (q_assign rfl) ?_
  clear hF; intro a hF
  exact goW_done kQ (j6_mk kO mO KO MO zO9 v_6_5 ((And.intro hkO (And.intro hmO trivial))) (hF.sub (L' := [(6, _), (15, _), (19, _), (21, _)]) ⟨rfl, rfl, rfl, rfl, trivial⟩) hS)
 rintro a w ⟨kO, mO, KO, MO, zO9, v_6_5, ⟨hkO, hmO, -⟩, hF, hS⟩
 (try dsimp only at hF); (try dsimp only at hS)
 obtain ⟨zu2, hzu2, hS⟩ := hS.union
 replace hS : St _ [_, _, _, _, _, _, _] [_, _, _] _ := hS
 obtain ⟨zK, hsK, hS⟩ := St.freezeE encN hS (z' := zu2) (xs := [(KM.1, KM.2), (KO, MO)]) (by simp) rfl (by decide) ⟨⟨_, _, rfl, hkM.mono (hzu2 _ (by simp)), hmM.mono (hzu2 _ (by simp))⟩, ⟨_, _, rfl, hkO.mono (hzu2 _ (by simp)), hmO.mono (hzu2 _ (by simp))⟩, trivial⟩
 replace hS : St _ [_, _, _, _, _, _, _, _] [_, _] _ := hS
 refine hK7 _ _ ?_
 clear hK7
 refine wp_seq_k ?_; intro K8 hK8
 refine reg hF hS (sq rfl (q_assign rfl) <|
   sq_end) ?_
 clear hF hS; intro a w hF hS
 replace hS := hS.nilRow 3 1
 refine hK8 _ _ ?_
 clear hK8
 refine wp_seq_k ?_; intro K9 hK9
 refine wp_seq_k ?_; intro K10 hK10
 refine reg hF hS (sq rfl (q_assign rfl) <|
   sq_end) ?_
 clear hF hS; intro a w hF hS
 refine hK10 _ _ ?_
 clear hK10
 refine wp_block ?_
 obtain ⟨hs0, hhs0, hS⟩ : ∃ h, h = _ ∧ St _ _ h _ := ⟨_, rfl, hS⟩
 refine wp_loopx (γ := Value × Int × List Int) ((Value.slice none 0 0), 0, []) (fun (gg : Value × Int × List Int) => match gg with | (u, i, L) => [(22, u), (23, vi i)]) [(6, _), (15, _), (19, _), (21, _)] (fun (gg : Value × Int × List Int) => match gg with | (u, i, L) => (hs0.set 0 (.row u 3 1 L.length (L.map vi)))) (fun (gg : Value × Int × List Int) => match gg with | (u, i, L) => (0 ≤ i ∧ i ≤ 8 ∧ i ≤ rw_.length) ∧ L.length = i.toNat ∧ ∀ x ∈ L, -9223372036854775808 ≤ x ∧ x ≤ 9223372036854775807) (fun (gg : Value × Int × List Int) => match gg with | (u, i, L) => (8 - i).toNat) (hF.sub ⟨rfl, rfl, rfl, rfl, rfl, rfl, trivial⟩) (by subst hhs0; exact hS) (by exact ⟨⟨Int.le_refl _, by omega, by omega⟩, rfl, fun x hx => by cases hx⟩) ?_
 clear hF hS; rintro ⟨u, i, L⟩ a w hfact hF hS
 subst hhs0; (try dsimp only at hfact); (try dsimp only at hF); (try dsimp only at hS)
 obtain ⟨⟨hi0, hi1, hi2⟩, hLl, hLr⟩ := hfact
 replace hS : St _ [_, _, _, _, _, _, _, _] [_, _, _] _ := hS
 refine wp_seq_k ?_; intro K11 hK11
 refine wp_seq_k ?_; intro K12 hK12
 refine regl ?_
 refine wpl_sq hF hS (sq rfl (q_move rfl) <|
   sq rfl (q_move rfl) <|
   sq rfl (q_len_sl ty22 hr rfl) <|
   sq rfl (q_lti rfl rfl) <|
   sq rfl (q_move rfl) <|
   sq_end) ?_
 clear hF hS; intro a w hF hS
 refine wpl_and 4 68 2 hF hS rfl rfl rfl rfl rfl (fun hg => have hg := (by first | exact of_decide_eq_true hg | exact hg); sq_go 68 rfl rfl rfl (q_move rfl) <|
   sq_go 68 rfl rfl rfl (q_lti rfl rfl) <|
   sq_end) rfl rfl ?_
 clear hF hS; intro a w hF hS
 refine wpl_sq hF hS (sq rfl (q_move rfl) <|
   sq_end) ?_
 clear hF hS; intro a w hF hS
 refine wpl_and 8 72 4 hF hS rfl rfl rfl rfl rfl (fun hg => have hg := hg; sq_go 72 rfl rfl rfl (q_fieldAddr ty26 rfl rfl (s' := 0) kQ) <|
   sq_go 72 rfl rfl rfl (q_ld_blk1 ty22 2 rfl rfl rfl rfl) <|
   sq_go 72 rfl rfl rfl (q_len_sl ty22 hsF rfl) <|
   sq_go 72 rfl rfl rfl (q_gti rfl rfl) <|
   sq_end) rfl rfl ?_
 clear hF hS; intro a w hF hS
 refine wpList_nil ?_
 refine hK12 _ _ ?_
 clear hK12
 refine wp_if hF rfl (fun hc1 => ?_) (fun hc1 => ?_)
 ·(try simp only [Bool.or_eq_true, Bool.and_eq_true, Bool.or_eq_false_iff, Bool.and_eq_false_iff, decide_eq_true_eq, decide_eq_false_iff_not, Bool.not_eq_true', Bool.not_eq_false'] at hc1)
  have hri := sl_rng hr (rw_.getD i.toNat 0) (getD_mem (by omega))
  have har := Gu.arnd_range (n := rw_.getD i.toNat 0) (m := (xs.length : Int)) (by omega)
  refine wp_skip ?_
  refine hK11 _ _ ?_
  clear hK11
  refine wp_seq_k ?_; intro K13 hK13
  refine wp_block ?_
  revert hS; revert hF; apply regJ (J := J2 (α0 := Value) (α1 := Value) 160 _ _ _ _ _) #[false, false, false, false, false, false, false, false, false, false, false, false, false, false, false, false] 16 mixed rfl rfl
  ·intro w hF hS
   refine goW_take 0 _ rfl kQ rfl hF (hS.keep sQ zQ) (q_move rfl) ?_
   clear hF; intro a hF
   refine goW_take 1 _ rfl kQ rfl hF (hS.keep sQ zQ) (q_fieldAddr ty26 rfl rfl (s' := 0) kQ) ?_
   clear hF; intro a hF
   refine goW_take 2 _ rfl kQ rfl hF (hS.keep sQ (sQ.n.n)) (q_ld_blk1 ty22 0 rfl rfl rfl rfl) ?_
   clear hF; intro a hF
   refine goW_take 3 _ rfl kQ rfl hF (hS.keep sQ zQ) (q_move rfl) ?_
   clear hF; intro a hF
   refine goW_take 4 _ rfl kQ rfl hF (hS.keep sQ zQ) (q_move rfl) ?_
   clear hF; intro a hF
   refine goW_take 5 _ rfl kQ rfl hF (hS.keep sQ zQ) (q_idx_sl ty22 ty3 hr rfl rfl (by omega)) ?_
   clear hF; intro a hF
   refine goW_take 6 _ rfl kQ rfl hF (hS.keep sQ zQ) (q_ld_I ty3 hr zin0 rfl rfl (by omega)) ?_
   clear hF; intro a hF
   refine goW_take 7 _ rfl kQ rfl hF (hS.keep sQ zQ) (q_fieldAddr ty26 rfl rfl (s' := 0) kQ) ?_
   clear hF; intro a hF
   refine goW_take 8 _ rfl kQ rfl hF (hS.keep sQ (sQ.n.n)) (q_ld_blk1 ty22 0 rfl rfl rfl rfl) ?_
   clear hF; intro a hF
   refine goW_take 9 _ rfl kQ rfl hF (hS.keep sQ zQ) (q_len_sl ty22 hsF rfl) ?_
   clear hF; intro a hF
   refine gQ 10 rfl rfl hF hS rfl (ef_qt (q_call fn40 rfl (fun w hS => arnd_ct _ _ (by omega) (by omega) w ) (fun _ _ _ h => h))) ?_
   clear hF hS; rintro _ _ _ a w ⟨rfl, rfl, rfl⟩ hF hS
   refine ⟨⟨iQ, iQ, .inr (hS.keep sQ zQ), iQ, iQ, .inr (hS.keep sQ zQ), .inr (hS.keep sQ zQ), .inr (hS.keep sQ (sQ.n.n)), .inr (hS.keep sQ zQ), .inr (hS.keep sQ zQ), trivial⟩, ?_⟩
   refine goW_take 11 _ rfl kQ rfl hF (hS.keep sQ zQ) (q_idx_sl ty22 ty3 hsF rfl rfl (by omega)) ?_
   clear hF; intro a hF
   refine goW_take 12 _ rfl kQ rfl hF (hS.keep sQ zQ) (q_ld_I ty3 hsF (.inr (by simp)) rfl rfl (by omega)) ?_
   clear hF; intro a hF
   refine gQ 13 rfl rfl hF hS rfl (ef_bsliceA ty22 ty3 rfl rfl oQ (by decide) rfl rfl) ?_
   clear hF hS; rintro v_11_13 _ _ a w ⟨rfl, rfl⟩ hF hS
   refine ⟨⟨iQ, iQ, iQ, iQ, .inr (hS.keep sQ zQ), iQ, iQ, .inr (hS.keep sQ zQ), .inr (hS.keep sQ zQ), .inr (hS.keep sQ (sQ.n.n.n)), .inr (hS.keep sQ zQ), .inr (hS.keep sQ zQ), trivial⟩, ?_⟩
   refine gQ 14 rfl rfl hF hS rfl (ef_append ty22 ty3 1 rfl rfl rfl (src_row ty22 (k := 0) rfl oQ) bQ rfl (by decide)) ?_
   clear hF hS; rintro v_11_14 _ _ a w ⟨rfl, rfl⟩ hF hS
   refine ⟨⟨iQ, iQ, iQ, iQ, .inr (hS.keep sQ zQ), iQ, iQ, .inr (hS.keep sQ zQ), .inr (hS.keep sQ zQ), .inr (hS.keep sQ (sQ.n.n.n)), .inr (hS.keep sQ zQ), iQ, trivial⟩, ?_⟩
   refine goW_take 15 _ rfl kQ rfl hF (hS.keep sQ zQ) (q_assign rfl) ?_
   clear hF; intro a hF
   exact goW_done kQ (j2_mk v_11_13 v_11_14 (trivial) (hF.sub (L' := [(6, _), (15, _), (19, _), (21, _), (22, _), (23, _)]) ⟨rfl, rfl, rfl, rfl, rfl, rfl, trivial⟩) hS)
  rintro a w ⟨v_11_13, v_11_14, -, hF, hS⟩
  (try dsimp only at hF); (try dsimp only at hS)
  refine hK13 _ _ ?_
  clear hK13
  refine reg hF hS (sq rfl (q_move rfl) <|
    sq rfl (q_addi rfl rfl (by omega)) <|
    sq rfl (q_assign rfl) <|
    sq_end) ?_
  clear hF hS; intro a w hF hS
  replace hS := hS.keep sQ (sQ.n)
  refine ⟨(v_11_14, i + 1, L ++ [xs.getD (Gu.arnd (rw_.getD i.toNat 0) xs.length).toNat 0]), ?_, ?_, hF.sub ⟨rfl, rfl, rfl, rfl, rfl, rfl, trivial⟩, ?_⟩
  ·(try dsimp only); omega
  ·exact ⟨⟨by omega, by omega, by omega⟩, by rw [List.length_append, List.length_singleton]; omega, fun x hx => (List.mem_append.1 hx).elim (hLr x) fun h => by rw [List.mem_singleton.1 h]; exact sl_rng hsF _ (getD_mem (by omega))⟩
  ·dsimp only; rw [List.length_append, List.map_append]; exact hS
 ·(try simp only [Bool.or_eq_true, Bool.and_eq_true, Bool.or_eq_false_iff, Bool.and_eq_false_iff, decide_eq_true_eq, decide_eq_false_iff_not, Bool.not_eq_true', Bool.not_eq_false'] at hc1)
  replace hS := hS.rowEq (m' := L.length) (by omega) rfl
  obtain ⟨zw, hzw, hS⟩ := St.freezeV (h0 := fun _ => rfl) (f := vi) (p := fun x => -9223372036854775808 ≤ x ∧ x ≤ 9223372036854775807) (xs := L) hS rfl (by omega) hLr
  replace hS : St _ [_, _, _, _, _, _, _, _, _] [_, _] _ := hS
  obtain ⟨zu3, hzu3, hS⟩ := hS.union
  replace hS : St _ [_, _, _, _, _, _, _, _, _, _] [_, _] _ := hS
  have hA9 := hzP.mono (hzu3 _ (by simp))
  have hB9 := hzw.mono (hzu3 _ (by simp))
  have hC9 := Sl.cut (lo := 0) (hi := (min (rw_.length : Int) 8).toNat) hr (by omega)
  have hD9 := Sl.cut (lo := 0) (hi := (min (p9.length : Int) 1).toNat) hA9 (by omega)
  refine wp_exit ?_
  refine hK9 _ _ ?_
  clear hK9
  refine wp_seq_k ?_; intro K14 hK14
  refine regt 12 mixed kQ hF hS (sq rfl (q_move rfl) <|
    sq rfl (q_move rfl) <|
    sq rfl (q_move rfl) <|
    sq rfl (q_move rfl) <|
    sq rfl (q_len_sl ty22 hr rfl) <|
    sq rfl (q_min rfl rfl) <|
    sq rfl (q_slsl_hi ty22 ty3 hr rfl rfl (by omega)) <|
    sq rfl (q_move rfl) <|
    sq rfl (q_move rfl) <|
    sq rfl (q_len_sl ty22 hzP rfl) <|
    sq rfl (q_min rfl rfl) <|
    sq rfl (q_slsl_hi ty22 ty3 hzP rfl rfl (by omega)) <|
    sq_end) ?_
  clear hF hS; intro a w hF hS
  refine wpl_ef hF hS rfl (ef_bsliceA ty75 ty22 rfl rfl (oc_cons (sl_one' hzP) (oc_cons (sl_one' hzw) (oc_cons (sl_one' (Sl.cut hr (by omega))) (oc_cons (sl_one' (Sl.cut hzP (by omega))) oc_nil)))) (by decide) rfl rfl) ?_
  clear hF hS; rintro v6 _ _ a w ⟨rfl, rfl⟩ hF hS
  replace hS : St _ [_, _, _, _, _, _, _, _, _, _] [_, _, _] _ := hS
  refine wpl_sq hF hS (sq rfl (q_assign rfl) <|
    sq_end) ?_
  clear hF hS; intro a w hF hS
  refine wpList_nil ?_
  refine hK14 _ _ ?_
  clear hK14
  refine wp_seq_k ?_; intro K15 hK15
  refine wp_seq_k ?_; intro K16 hK16
  refine reg hF hS (sq rfl (q_assign rfl) <|
    sq_end) ?_
  clear hF hS; intro a w hF hS
  refine hK16 _ _ ?_
  clear hK16
  refine wp_block ?_
  obtain ⟨hs0, hhs0, hS⟩ : ∃ h, h = _ ∧ St _ _ h _ := ⟨_, rfl, hS⟩
  refine wp_loopx (γ := Int) (0) (fun (i : Int) => [(25, vi i)]) [(15, _), (21, _), (24, _)] (fun (i : Int) => hs0) (fun (i : Int) => 0 ≤ i ∧ i ≤ 8) (fun (i : Int) => (8 - i).toNat) (hF.sub ⟨rfl, rfl, rfl, rfl, trivial⟩) (by subst hhs0; exact hS) (by exact ⟨Int.le_refl _, by omega⟩) ?_
  clear hF hS; rintro i a w hfact hF hS
  subst hhs0; (try dsimp only at hfact); (try dsimp only at hF); (try dsimp only at hS)
  obtain ⟨hi0, hi1⟩ := hfact
  replace hS : St _ [_, _, _, _, _, _, _, _, _, _] [_, _, _] _ := hS
  refine wp_seq_k ?_; intro K17 hK17
  refine wp_seq_k ?_; intro K18 hK18
  refine reg hF hS (sq rfl (q_move rfl) <|
    sq rfl (q_lti rfl rfl) <|
    sq_end) ?_
  clear hF hS; intro a w hF hS
  refine hK18 _ _ ?_
  clear hK18
  refine wp_ifd hF rfl (fun hc2 => ?_) (fun hc2 => ?_)
  ·obtain ⟨kv9, mv9, K9, M9, hki, hkcel, hk9, hm9⟩ := knw_at hsK (k := (i / 4).toNat) (by show _ < 2; omega)
   obtain ⟨zK9, mk, hZK, hMK, hmk9⟩ := pick4 (N := 41) hA9 hB9 hC9 hD9 (by omega) (by omega) (by simp; omega) (by simp; omega) (k := (i % 4).toNat) (by omega)
   refine wp_skip ?_
   refine hK17 _ _ ?_
   clear hK17
   refine wp_seq_k ?_; intro K19 hK19
   refine wp_block ?_
   refine wp_seq_k ?_; intro K20 hK20
   refine regd mixed kQ hF hS (sq rfl (q_ld_blkW ty26 2 rfl rfl bQ rfl) <|
     sq rfl (q_call fn17 rfl (fun w hS => own_ct _ _ _ _ _ w (sl_one' hnF) (Sl.mono (hS.le (.inr (by simp))) hsF) (Sl.mono (hS.le (.inr (by simp))) hbF)) (fun _ _ _ h => h)) <|
     sq rfl (q_move rfl) <|
     sq rfl (q_move rfl) <|
     sq rfl (q_quoi rfl rfl (by omega)) <|
     sq rfl (q_idx_sl ty37 ty31 hsK rfl rfl (by show 0 ≤ _ ∧ _ < (2 : Int); omega)) <|
     sq rfl (q_ld_knw ty31 hsK (.inr (by simp)) hkcel rfl rfl (by show _ < 2; omega)) <|
     sq rfl (q_call fn23 rfl (fun w hS => known_ct _ _ _ _ w (Sl.mono (hS.le (.inr (by simp))) hk9) (Sl.mono (hS.le (.inr (by simp))) hm9)) (fun _ _ _ h => h)) <|
     sq rfl (q_move rfl) <|
     sq rfl (q_move rfl) <|
     sq rfl (q_remi rfl rfl (by omega)) <|
     sq rfl (q_idx_row ty75 ty22 0 rfl rfl rfl (by omega)) <|
     sq rfl (q_ld_rowV ty22 0 rfl rfl (by show _ < 4; omega) rfl) <|
     sq rfl (q_call fn41 rfl (fun w hS => line_ct _ _ _ _ _ _ _ _ _ _ _ (by omega) (by omega) w (sl_one' hnF) (Sl.mono (hS.le (.inr (by simp))) hsF) (Sl.mono (hS.le (.inr (by simp))) hbF) (Sl.mono (hS.le (.inr (by simp))) hk9) (Sl.mono (hS.le (.inr (by simp))) hm9) (Sl.mono (hS.le (hZK.imp id (fun e => by simp [e]))) hMK)) (fun _ _ _ h => h)) <|
     sq rfl (q_move rfl) <|
     sq rfl (q_extract rfl rfl) <|
     sq rfl (q_extract rfl rfl) <|
     sq rfl (q_extract rfl rfl) <|
     sq rfl (q_assign rfl) <|
     sq rfl (q_assign rfl) <|
     sq rfl (q_assign rfl) <|
     sq_end) ?_
   clear hF hS; intro a w hF hS
   refine hK20 _ _ ?_
   clear hK20
   refine wp_seq_k ?_; intro K21 hK21
   refine regd mixed kQ hF hS (sq rfl (q_ld_blkW ty26 2 rfl rfl bQ rfl) <|
     sq rfl (q_move rfl) <|
     sq rfl (q_move rfl) <|
     sq rfl (q_quoi rfl rfl (by omega)) <|
     sq rfl (q_idx_sl ty37 ty31 hsK rfl rfl (by show 0 ≤ _ ∧ _ < (2 : Int); omega)) <|
     sq rfl (q_ld_knw ty31 hsK (.inr (by simp)) hkcel rfl rfl (by show _ < 2; omega)) <|
     sq rfl (q_move rfl) <|
     sq rfl (q_move rfl) <|
     sq rfl (q_remi rfl rfl (by omega)) <|
     sq rfl (q_idx_row ty75 ty22 0 rfl rfl rfl (by omega)) <|
     sq rfl (q_ld_rowV ty22 0 rfl rfl (by show _ < 4; omega) rfl) <|
     sq rfl (q_call fn42 rfl (fun w hS => rline_ct _ _ _ _ _ _ _ _ _ _ _ (by omega) (by omega) w (sl_one' hnF) (Sl.mono (hS.le (.inr (by simp))) hsF) (Sl.mono (hS.le (.inr (by simp))) hbF) (Sl.mono (hS.le (.inr (by simp))) hk9) (Sl.mono (hS.le (.inr (by simp))) hm9) (Sl.mono (hS.le (hZK.imp id (fun e => by simp [e]))) hMK)) (fun _ _ _ h => h)) <|
     sq rfl (q_move rfl) <|
     sq rfl (q_extract rfl rfl) <|
     sq rfl (q_extract rfl rfl) <|
     sq rfl (q_extract rfl rfl) <|
     sq rfl (q_assign rfl) <|
     sq rfl (q_assign rfl) <|
     sq rfl (q_assign rfl) <|
     sq_end) ?_
   clear hF hS; intro a w hF hS
   refine hK21 _ _ ?_
   clear hK21
   refine wp_seq_k ?_; intro K22 hK22
   refine reg hF hS (sq rfl (q_move rfl) <|
     sq rfl (q_move rfl) <|
     sq rfl (q_nf (q_nei rfl rfl) (by simp)) <|
     sq rfl (q_move rfl) <|
     sq_go 149 rfl rfl rfl (q_move rfl) <|
     sq_go 149 rfl rfl rfl (q_move rfl) <|
     sq_go 149 rfl rfl rfl (q_bf (q_net ty4 rfl rfl) (by simp)) <|
     sq rfl (q_pick_f rfl rfl) <|
     sq rfl (q_move rfl) <|
     sq_go 154 rfl rfl rfl (q_move rfl) <|
     sq_go 154 rfl rfl rfl (q_move rfl) <|
     sq_go 154 rfl rfl rfl (q_nf (q_nei rfl rfl) (by simp)) <|
     sq rfl (q_pick_f rfl rfl) <|
     sq_end) ?_
   clear hF hS; intro a w hF hS
   refine hK22 _ _ ?_
   clear hK22
   refine wp_if hF rfl (fun h => absurd h (by simp)) (fun _ => ?_)
   refine wp_skip ?_
   refine hK19 _ _ ?_
   clear hK19
   refine reg hF hS (sq rfl (q_move rfl) <|
     sq rfl (q_addi rfl rfl (by omega)) <|
     sq rfl (q_assign rfl) <|
     sq_end) ?_
   clear hF hS; intro a w hF hS
   refine ⟨(i + 1), ?_, ?_, hF.sub ⟨rfl, rfl, rfl, rfl, trivial⟩, ?_⟩
   ·(try dsimp only); omega
   ·(try dsimp only); omega
   ·exact hS
  ·refine wp_exit ?_
   refine hK15 _ _ ?_
   clear hK15
   refine wp_seq_k ?_; intro K23 hK23
   refine reg hF hS (sq rfl (q_call fn25 rfl (fun w hS => lives_ct w ) (fun _ _ _ h => h)) <|
     sq rfl (q_assign rfl) <|
     sq_end) ?_
   clear hF hS; intro a w hF hS
   refine hK23 _ _ ?_
   clear hK23
   refine wp_ret ?_
   exact fn_ret (rs := [.tmp 14]) rfl hF hS (vs := [_]) ⟨rfl, trivial⟩ zQ zQ (rfl)
end Go.Proofs.Ytefjpigmgmbghaa
