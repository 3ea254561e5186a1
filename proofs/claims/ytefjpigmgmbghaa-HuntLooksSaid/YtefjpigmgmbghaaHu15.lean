/- A text of a proof over this seat: walks over the program's functions and the plain laws that they need. -/
import Derived.Test.YtefjpigmgmbghaaHu14
import Derived.Test.YtefjpigmgmbghaaHpA
import Derived.Test.YtefjpigmgmbghaaFwD
import Derived.Test.YtefjpigmgmbghaaFwB
set_option linter.all false
namespace Go.Proofs.Ytefjpigmgmbghaa
open Go.Fw
theorem fn27 : FnOk Try.prog 27 := ⟨_, Try.func27, rfl, by kernel_rfl⟩
theorem fn29 : FnOk Try.prog 29 := ⟨_, Try.func29, rfl, by kernel_rfl⟩
theorem fn33 : FnOk Try.prog 33 := ⟨_, Try.func33, rfl, by kernel_rfl⟩
theorem fn35 : FnOk Try.prog 35 := ⟨_, Try.func35, rfl, by kernel_rfl⟩

set_option maxRecDepth 4000 in
set_option maxHeartbeats 2000000 in
theorem law32_ct (v : Value) (l : List Int) (v2 : Value) (m : List Int) (v3 : Value) (n : List Int) (v4 : Value) (o : List Int) (h : Int) (hh9 : -9223372036854775808 ≤ h ∧ h ≤ 9223372036854775807) (b : Int) (hb9 : -9223372036854775808 ≤ b ∧ b ≤ 9223372036854775807) (w : World) (hl : Sl encI (ph w) v l) (hm : Sl encI (ph w) v2 m) (hn : Sl encI (ph w) v3 n) (ho : Sl encI (ph w) v4 o) : Ct Try.prog 4 [v, v2, v3, v4, vi h, vi b] w (fun r _ _ => r = .bool true) := by
 refine fn_enter Try.func4 rfl Try.ntmps4 (Nat.le_of_ble_eq_true rfl) fun a hF hS => ?_
 refine wp_seq_k ?_; intro K1 hK1
 refine reg hF hS (sq rfl (q_assign rfl) <|
   sq_end) ?_
 clear hF hS; intro a w hF hS
 refine hK1 _ _ ?_
 clear hK1
 refine wp_seq_k ?_; intro K2 hK2
 refine regl ?_
 refine wpl_sq hF hS (sq rfl (q_move rfl) <|
   sq_end) ?_
 clear hF hS; intro a w hF hS
 refine wpl_ef hF hS rfl (ef_call fn10 rfl (fun w hS => family_ct _ _ w (Sl.mono (hS.le zin0) hl))) ?_
 clear hF hS; rintro _ _ _ a w ⟨_, _, rfl, rfl, ⟨nvF, svF, bvF, ns, xs, xb, zF, rfl, hnF, hsF, hbF, lnF, lsF, lbF, leqF, rfl, rfl⟩⟩ hF hS
 replace hS : St _ [_] [] _ := hS
 refine wpl_ef hF hS rfl (ef_allocA ty26) ?_
 clear hF hS; rintro _ _ _ a w ⟨b2, rfl, rfl, rfl⟩ hF hS
 refine wpl_ef hF hS rfl (ef_storeW ty26 0 rfl rfl rfl rfl bQ (oc_cons (sl_one' hnF) (oc_cons (sl_one' hsF) (oc_cons (sl_one' hbF) oc_nil))) bQ) ?_
 clear hF hS; rintro _ _ _ a w ⟨rfl, rfl, rfl⟩ hF hS
 replace hS : St _ [_] [_] _ := hS
 refine wpList_nil ?_
 refine hK2 _ _ ?_
 clear hK2
 refine wp_seq_k ?_; intro K3 hK3
 refine regl ?_
 refine wpl_sq hF hS (sq rfl (q_ld_blkW ty26 0 rfl rfl bQ rfl) <|
   sq rfl (q_move rfl) <|
   sq_end) ?_
 clear hF hS; intro a w hF hS
 refine wpl_ef hF hS rfl (ef_call fn11 rfl (fun w hS => keys_ct _ _ _ _ _ _ _ (by first | with_reducible assumption | omega) w (sl_one' hnF) (Sl.mono (hS.le (.inr (by simp))) hsF) (Sl.mono (hS.le (.inr (by simp))) hbF) (Sl.mono (hS.le zin0) hm))) ?_
 clear hF hS; rintro v3 _ _ a w ⟨_, _, rfl, rfl, ⟨zY, hzY, rfl, rfl⟩⟩ hF hS
 replace hS : St _ [_, _] [_] _ := hS
 refine wpl_sq hF hS (sq rfl (q_assign rfl) <|
   sq_end) ?_
 clear hF hS; intro a w hF hS
 refine wpList_nil ?_
 obtain ⟨heq, hfam, hx0⟩ := leqF
 obtain ⟨ks, hks⟩ : ∃ ks, ks = Hu.kyl m xs.length := ⟨_, rfl⟩
 have hkl9 : ks.length = xs.length := by rw [hks, Hu.kyl_len]
 rw [← hks] at hzY
 refine hK3 _ _ ?_
 clear hK3
 refine wp_seq_k ?_; intro K4 hK4
 revert hS; revert hF; apply regJ (J := J6 (α0 := Value) (α1 := PH) (α2 := Value) (α3 := Value) (α4 := PH) (α5 := Nat) 204 _ _ _ _ _) #[false, false, false, false, false, false, false, false, false] 9 mixed rfl rfl
 ·intro w hF hS
  refine goW_take 0 _ rfl kQ rfl hF (hS.keep sQ sQ) (q_ld_blkW ty26 0 rfl rfl bQ rfl) ?_
  clear hF; intro a hF
  refine goW_take 1 _ rfl kQ rfl hF (hS.keep sQ zQ) (q_move rfl) ?_
  clear hF; intro a hF
  refine goW_take 2 _ rfl kQ rfl hF (hS.keep sQ zQ) (q_move rfl) ?_
  clear hF; intro a hF
  refine goW_take 3 _ rfl kQ rfl hF (hS.keep sQ zQ) (q_move rfl) ?_
  clear hF; intro a hF
  refine goW_take 5 _ rfl kQ rfl hF (hS.keep sQ zQ) (q_move rfl) ?_
  clear hF; intro a hF
  refine goW_fork [4, 7] kQ rfl ⟨?_, ?_, trivial⟩
  ·refine stepW_ef _ rfl rfl hF hS rfl (ef_call fn13 rfl (fun w hS => truth_ct _ _ _ _ (by first | with_reducible assumption | omega) w (Sl.mono (hS.le (.inr (by simp))) hzY) (Sl.mono (hS.le zin0) hn))) ?_
   clear hF hS; rintro v_3_4 _ _ a w ⟨_, _, rfl, rfl, ⟨zU, hzU, rfl, rfl⟩⟩ hF hS
   refine ⟨⟨.inr (hS.keep (sQ.n) zQ), iQ, iQ, .inr (hS.keep (sQ.n) zQ), .inr (hS.keep (sQ.n) sQ), trivial⟩, ?_⟩
   refine goW_fork [6, 7] kQ rfl ⟨?_, ?_, trivial⟩
   ·refine stepW_ef _ rfl rfl hF hS rfl (ef_call fn12 rfl (fun w hS => marked_ct _ _ _ _ _ _ _ _ _ _ _ (by omega) w (sl_one' hnF) (Sl.mono (hS.le (.inr (by simp))) hsF) (Sl.mono (hS.le (.inr (by simp))) hbF) (Sl.mono (hS.le (.inr (by simp))) hzY) (Sl.mono (hS.le (.inr (by simp))) hzU) (Sl.mono (hS.le zin0) ho))) ?_
    clear hF hS; rintro _ _ _ a w ⟨_, _, rfl, rfl, ⟨kM, mM, zM, rfl, hkM, hmM, rfl, rfl⟩⟩ hF hS
    refine ⟨⟨iQ, iQ, iQ, iQ, iQ, trivial⟩, ?_⟩
    refine gQ 7 rfl rfl hF hS rfl (ef_allocA ty31) ?_
    clear hF hS; rintro _ _ _ a w ⟨b_3_7, rfl, rfl, rfl⟩ hF hS
    refine ⟨⟨iQ, iQ, iQ, iQ, iQ, trivial⟩, ?_⟩
    refine gQ 8 rfl rfl hF hS rfl (ef_storeW ty31 0 rfl rfl rfl rfl bQ (oc_cons (sl_one' hkM) (oc_cons (sl_one' hmM) oc_nil)) bQ) ?_
    clear hF hS; rintro _ _ _ a w ⟨rfl, rfl, rfl⟩ hF hS
    refine ⟨⟨iQ, iQ, iQ, iQ, iQ, trivial⟩, ?_⟩
    exact goW_done kQ (j6_mk v_3_4 zU kM mM zM b_3_7 ((And.intro hzU (And.intro hkM (And.intro hmM trivial)))) (hF.sub (L' := [(4, _), (5, _), (13, _), (15, _)]) ⟨rfl, rfl, rfl, rfl, trivial⟩) hS)
   ·refine stepW_ef _ rfl rfl hF hS rfl (ef_allocA ty31) ?_
    clear hF hS; rintro _ _ _ a w ⟨b_3_7, rfl, rfl, rfl⟩ hF hS
    refine ⟨⟨.inr (hS.keep (sQ.n) zQ), iQ, iQ, .inr (hS.keep (sQ.n) zQ), .inr (hS.keep (sQ.n) (sQ.n)), trivial⟩, ?_⟩
    refine gQ 6 rfl rfl hF hS rfl (ef_call fn12 rfl (fun w hS => marked_ct _ _ _ _ _ _ _ _ _ _ _ (by omega) w (sl_one' hnF) (Sl.mono (hS.le (.inr (by simp))) hsF) (Sl.mono (hS.le (.inr (by simp))) hbF) (Sl.mono (hS.le (.inr (by simp))) hzY) (Sl.mono (hS.le (.inr (by simp))) hzU) (Sl.mono (hS.le zin0) ho))) ?_
    clear hF hS; rintro _ _ _ a w ⟨_, _, rfl, rfl, ⟨kM, mM, zM, rfl, hkM, hmM, rfl, rfl⟩⟩ hF hS
    refine ⟨⟨iQ, iQ, iQ, iQ, iQ, trivial⟩, ?_⟩
    refine gQ 8 rfl rfl hF hS rfl (ef_storeW ty31 0 rfl rfl rfl rfl bQ (oc_cons (sl_one' hkM) (oc_cons (sl_one' hmM) oc_nil)) bQ) ?_
    clear hF hS; rintro _ _ _ a w ⟨rfl, rfl, rfl⟩ hF hS
    refine ⟨⟨iQ, iQ, iQ, iQ, iQ, trivial⟩, ?_⟩
    exact goW_done kQ (j6_mk v_3_4 zU kM mM zM b_3_7 ((And.intro hzU (And.intro hkM (And.intro hmM trivial)))) (hF.sub (L' := [(4, _), (5, _), (13, _), (15, _)]) ⟨rfl, rfl, rfl, rfl, trivial⟩) hS)
  ·refine stepW_ef _ rfl rfl hF hS rfl (ef_allocA ty31) ?_
   clear hF hS; rintro _ _ _ a w ⟨b_3_7, rfl, rfl, rfl⟩ hF hS
   refine ⟨⟨.inr (hS.keep sQ zQ), .inr (hS.keep sQ zQ), .inr (hS.keep sQ zQ), .inr (hS.keep sQ zQ), .inr (hS.keep sQ (sQ.n)), trivial⟩, ?_⟩
   refine gQ 4 rfl rfl hF hS rfl (ef_call fn13 rfl (fun w hS => truth_ct _ _ _ _ (by first | with_reducible assumption | omega) w (Sl.mono (hS.le (.inr (by simp))) hzY) (Sl.mono (hS.le zin0) hn))) ?_
   clear hF hS; rintro v_3_4 _ _ a w ⟨_, _, rfl, rfl, ⟨zU, hzU, rfl, rfl⟩⟩ hF hS
   refine ⟨⟨.inr (hS.keep (sQ.n) zQ), iQ, iQ, .inr (hS.keep (sQ.n) zQ), .inr (hS.keep (sQ.n) (sQ.n)), trivial⟩, ?_⟩
   refine gQ 6 rfl rfl hF hS rfl (ef_call fn12 rfl (fun w hS => marked_ct _ _ _ _ _ _ _ _ _ _ _ (by omega) w (sl_one' hnF) (Sl.mono (hS.le (.inr (by simp))) hsF) (Sl.mono (hS.le (.inr (by simp))) hbF) (Sl.mono (hS.le (.inr (by simp))) hzY) (Sl.mono (hS.le (.inr (by simp))) hzU) (Sl.mono (hS.le zin0) ho))) ?_
   clear hF hS; rintro _ _ _ a w ⟨_, _, rfl, rfl, ⟨kM, mM, zM, rfl, hkM, hmM, rfl, rfl⟩⟩ hF hS
   refine ⟨⟨iQ, iQ, iQ, iQ, iQ, trivial⟩, ?_⟩
   refine gQ 8 rfl rfl hF hS rfl (ef_storeW ty31 0 rfl rfl rfl rfl bQ (oc_cons (sl_one' hkM) (oc_cons (sl_one' hmM) oc_nil)) bQ) ?_
   clear hF hS; rintro _ _ _ a w ⟨rfl, rfl, rfl⟩ hF hS
   refine ⟨⟨iQ, iQ, iQ, iQ, iQ, trivial⟩, ?_⟩
   exact goW_done kQ (j6_mk v_3_4 zU kM mM zM b_3_7 ((And.intro hzU (And.intro hkM (And.intro hmM trivial)))) (hF.sub (L' := [(4, _), (5, _), (13, _), (15, _)]) ⟨rfl, rfl, rfl, rfl, trivial⟩) hS)
 rintro a w ⟨v_3_4, zU, kM, mM, zM, b_3_7, ⟨hzU, hkM, hmM, -⟩, hF, hS⟩
 (try dsimp only at hF); (try dsimp only at hS)
 obtain ⟨KM, hKM⟩ : ∃ x, x = Hu.mkK xs xb ks (Hu.tru n ks ks.length) o := ⟨_, rfl⟩
 rw [← hKM] at hkM hmM
 have hKl := Hu.mkS_len xs xb ks (Hu.tru n ks ks.length) o (Hu.mkN xs xb ks (Hu.tru n ks ks.length))
 rw [show Hu.mkS xs xb ks (Hu.tru n ks ks.length) o (Hu.mkN xs xb ks (Hu.tru n ks ks.length)) = KM from hKM.symm] at hKl
 refine hK4 _ _ ?_
 clear hK4
 refine wp_seq_k ?_; intro K5 hK5
 revert hS; revert hF; apply regJ (J := J8 (α0 := Value) (α1 := Value) (α2 := Value) (α3 := List (List Value)) (α4 := List Int) (α5 := List Bool) (α6 := PH) (α7 := Value) 204 _ _ _ _ _) #[false, false, false, false, false, false, false, false] 8 mixed rfl rfl
 ·intro w hF hS
  refine goW_take 0 _ rfl kQ rfl hF (hS.keep sQ (sQ.n)) (q_ld_blkW ty26 0 rfl rfl bQ rfl) ?_
  clear hF; intro a hF
  refine goW_take 1 _ rfl kQ rfl hF (hS.keep sQ (sQ.n)) (q_ld_blkW ty26 0 rfl rfl bQ rfl) ?_
  clear hF; intro a hF
  refine goW_take 2 _ rfl kQ rfl hF (hS.keep sQ zQ) (q_move rfl) ?_
  clear hF; intro a hF
  refine goW_take 3 _ rfl kQ rfl hF (hS.keep sQ zQ) (q_move rfl) ?_
  clear hF; intro a hF
  refine goW_take 5 _ rfl kQ rfl hF (hS.keep sQ zQ) (q_buildP (places := [(0, 1), (1, 1), (2, 1)]) (cells := [.slice none 0 0, .slice none 0 0, .slice none 0 0]) ty26 kQ rfl (by rfl)) ?_
  clear hF; intro a hF
  refine gQ 4 rfl rfl hF hS rfl (ef_call fn14 rfl (fun w hS => odd_ct _ _ _ _ _ _ _ _ (by omega) (by omega) 40 (by omega) w (Sl.mono (hS.le (.inr (by simp))) hnF) (Sl.mono (hS.le (.inr (by simp))) hsF) (Sl.mono (hS.le (.inr (by simp))) hbF))) ?_
  clear hF hS; rintro _ _ _ a w ⟨_, _, rfl, rfl, ⟨nvO, svO, bvO, nsO, ys, yb, zO, rfl, hnO, hsO, hbO, lnO, lsO, lbO, -, rfl, rfl⟩⟩ hF hS
  refine ⟨⟨.inr (hS.keep (sQ.n) zQ), iQ, iQ, iQ, .inr (hS.keep (sQ.n) (sQ.n)), trivial⟩, ?_⟩
  refine gQ 6 rfl rfl hF hS rfl (ef_bsliceC ty35 ty26 [[_, _, _], [_, _, _], [_, _, _]] rfl rfl (by simp) (oc2_cons (oc_cons (sl_one' hnF) (oc_cons (sl_one' hsF) (oc_cons (sl_one' hbF) oc_nil))) (oc2_cons (oc_cons (sl_one' hnO) (oc_cons (sl_one' hsO) (oc_cons (sl_one' hbO) oc_nil))) (oc2_cons (oc_cons rfl (oc_cons rfl (oc_cons rfl oc_nil))) oc2_nil))) (by decide) rfl rfl) ?_
  clear hF hS; rintro v_4_6 _ _ a w ⟨rfl, rfl⟩ hF hS
  refine ⟨⟨iQ, iQ, iQ, iQ, iQ, trivial⟩, ?_⟩
  refine goW_take 7 _ rfl kQ rfl hF (hS.keep sQ zQ) (q_assign rfl) ?_
  clear hF; intro a hF
  exact goW_done kQ (j8_mk nvO svO bvO nsO ys yb zO v_4_6 ((And.intro hnO (And.intro hsO (And.intro hbO (And.intro lnO (And.intro lsO (And.intro lbO trivial))))))) (hF.sub (L' := [(4, _), (5, _), (15, _), (16, _)]) ⟨rfl, rfl, rfl, rfl, trivial⟩) hS)
 rintro a w ⟨nvO, svO, bvO, nsO, ys, yb, zO, v_4_6, ⟨hnO, hsO, hbO, lnO, lsO, lbO, -⟩, hF, hS⟩
 (try dsimp only at hF); (try dsimp only at hS)
 obtain ⟨zu1, hzu1, hS⟩ := hS.union
 replace hS : St _ [_, _, _, _, _, _] [_, _, _] _ := hS
 obtain ⟨zL, hsL, hS⟩ := hS.freezeL (z' := zu1) (xs := [(ns, xs, xb), (nsO, ys, yb), ([], [], [])]) (by simp) rfl (by decide) ⟨⟨_, _, _, rfl, hnF.mono (hzu1 _ (by simp)), hsF.mono (hzu1 _ (by simp)), hbF.mono (hzu1 _ (by simp))⟩, ⟨_, _, _, rfl, hnO.mono (hzu1 _ (by simp)), hsO.mono (hzu1 _ (by simp)), hbO.mono (hzu1 _ (by simp))⟩, ⟨_, _, _, rfl, sl_nil, sl_nil, sl_nil⟩, trivial⟩
 replace hS : St _ [_, _, _, _, _, _, _] [_, _] _ := hS
 have hlL : ∀ x ∈ [(ns, xs, xb), (nsO, ys, yb), ([], [], [])], x.2.1.length ≤ 41 := by
  intro x hx
  simp only [List.mem_cons, List.not_mem_nil, or_false] at hx
  rcases hx with rfl | rfl | rfl
  ·show xs.length ≤ 41; omega
  ·show ys.length ≤ 41; omega
  ·exact Nat.zero_le _
 refine hK5 _ _ ?_
 clear hK5
 refine wp_seq_k ?_; intro K6 hK6
 revert hS; revert hF; apply regJ (J := J6 (α0 := Value) (α1 := Value) (α2 := List (List UInt8)) (α3 := List Int) (α4 := PH) (α5 := Value) 204 _ _ _ _ _) #[false, false, false, false, false, false, false, false] 8 mixed rfl rfl
 ·intro w hF hS
  refine goW_take 0 _ rfl kQ rfl hF (hS.keep sQ (zQ.k)) (q_ld_blkW ty31 0 rfl rfl bQ rfl) ?_
  clear hF; intro a hF
  refine goW_take 1 _ rfl kQ rfl hF (hS.keep sQ (zQ.k)) (q_ld_blkW ty31 0 rfl rfl bQ rfl) ?_
  clear hF; intro a hF
  refine goW_take 2 _ rfl kQ rfl hF (hS.keep sQ zQ) (q_move rfl) ?_
  clear hF; intro a hF
  refine goW_take 3 _ rfl kQ rfl hF (hS.keep sQ zQ) (q_move rfl) ?_
  clear hF; intro a hF
  refine goW_take 5 _ rfl kQ rfl hF (hS.keep sQ zQ) (q_buildP (places := [(0, 1), (1, 1)]) (cells := [.slice none 0 0, .slice none 0 0]) ty31 kQ rfl (by rfl)) ?_
  clear hF; intro a hF
  refine gQ 4 rfl rfl hF hS rfl (ef_call fn15 rfl (fun w hS => oddk_ct _ _ _ _ _ _ (by omega) (by omega) (by omega) w (Sl.mono (hS.le (.inr (by simp))) hkM) (Sl.mono (hS.le (.inr (by simp))) hmM))) ?_
  clear hF hS; rintro _ _ _ a w ⟨_, _, rfl, rfl, ⟨kO, mO, KO, MO, zO9, rfl, hkO, hmO, rfl, rfl⟩⟩ hF hS
  refine ⟨⟨.inr (hS.keep (sQ.n) zQ), iQ, iQ, iQ, .inr (hS.keep (sQ.n) (zQ.k)), trivial⟩, ?_⟩
  refine gQ 6 rfl rfl hF hS rfl (ef_bsliceC ty37 ty31 [[_, _], [_, _], [_, _]] rfl rfl (by simp) (oc2_cons (oc_cons (sl_one' hkM) (oc_cons (sl_one' hmM) oc_nil)) (oc2_cons (oc_cons (sl_one' hkO) (oc_cons (sl_one' hmO) oc_nil)) (oc2_cons (oc_cons rfl (oc_cons rfl oc_nil)) oc2_nil))) (by decide) rfl rfl) ?_
  clear hF hS; rintro v_5_6 _ _ a w ⟨rfl, rfl⟩ hF hS
  refine ⟨⟨iQ, iQ, iQ, iQ, iQ, trivial⟩, ?_⟩
  refine goW_take 7 _ rfl kQ rfl hF (hS.keep sQ zQ) (q_assign rfl) ?_
  clear hF; intro a hF
  exact goW_done kQ (j6_mk kO mO KO MO zO9 v_5_6 ((And.intro hkO (And.intro hmO trivial))) (hF.sub (L' := [(16, _), (17, _)]) ⟨rfl, rfl, trivial⟩) hS)
 rintro a w ⟨kO, mO, KO, MO, zO9, v_5_6, ⟨hkO, hmO, -⟩, hF, hS⟩
 (try dsimp only at hF); (try dsimp only at hS)
 obtain ⟨zu2, hzu2, hS⟩ := hS.union
 replace hS : St _ [_, _, _, _, _, _, _, _, _] [_, _, _] _ := hS
 obtain ⟨zK, hsK, hS⟩ := St.freezeE encN hS (z' := zu2) (xs := [(KM.1, KM.2), (KO, MO), ([], [])]) (by simp) rfl (by decide) ⟨⟨_, _, rfl, hkM.mono (hzu2 _ (by simp)), hmM.mono (hzu2 _ (by simp))⟩, ⟨_, _, rfl, hkO.mono (hzu2 _ (by simp)), hmO.mono (hzu2 _ (by simp))⟩, ⟨_, _, rfl, sl_nil, sl_nil⟩, trivial⟩
 replace hS : St _ [_, _, _, _, _, _, _, _, _, _] [_, _] _ := hS
 refine hK6 _ _ ?_
 clear hK6
 refine wp_seq_k ?_; intro K7 hK7
 refine wp_seq_k ?_; intro K8 hK8
 refine reg hF hS (sq rfl (q_assign rfl) <|
   sq_end) ?_
 clear hF hS; intro a w hF hS
 refine hK8 _ _ ?_
 clear hK8
 refine wp_block ?_
 obtain ⟨hs0, hhs0, hS⟩ : ∃ h, h = _ ∧ St _ _ h _ := ⟨_, rfl, hS⟩
 refine wp_loopx (γ := Int) (0) (fun (i : Int) => [(18, vi i)]) [(16, _), (17, _)] (fun (i : Int) => hs0) (fun (i : Int) => 0 ≤ i ∧ i ≤ 9) (fun (i : Int) => (9 - i).toNat) (hF.sub ⟨rfl, rfl, rfl, trivial⟩) (by subst hhs0; exact hS) (by exact ⟨Int.le_refl _, by omega⟩) ?_
 clear hF hS; rintro i a w hfact hF hS
 subst hhs0; (try dsimp only at hfact); (try dsimp only at hF); (try dsimp only at hS)
 obtain ⟨hi0, hi1⟩ := hfact
 replace hS : St _ [_, _, _, _, _, _, _, _, _, _] [_, _] _ := hS
 refine wp_seq_k ?_; intro K9 hK9
 refine wp_seq_k ?_; intro K10 hK10
 refine reg hF hS (sq rfl (q_move rfl) <|
   sq rfl (q_lti rfl rfl) <|
   sq_end) ?_
 clear hF hS; intro a w hF hS
 refine hK10 _ _ ?_
 clear hK10
 refine wp_ifd hF rfl (fun hc1 => ?_) (fun hc1 => ?_)
 ·obtain ⟨nv, sv, bv, nq, is, bs, pb, po, pcs, pty, pfz, hxi, hcel, hn9, hs9, hb99, hpe, hpb, hpc⟩ := lat_at2 hsL (k := (i / 3).toNat) (by show _ < 3; omega)
  have hil : is.length ≤ 41 := hlL _ (List.mem_of_getElem? hxi)
  obtain ⟨kv9, mv9, K9, M9, hki, hkcel, hk9, hm9⟩ := knw_at hsK (k := (i % 3).toNat) (by show _ < 3; omega)
  refine wp_skip ?_
  refine hK9 _ _ ?_
  clear hK9
  refine wp_seq_k ?_; intro K11 hK11
  refine wp_block ?_
  refine wp_seq_k ?_; intro K12 hK12
  refine regl ?_
  refine wpl_sq hF hS (sq rfl (q_move rfl) <|
    sq rfl (q_move rfl) <|
    sq rfl (q_quoi rfl rfl (by omega)) <|
    sq rfl (q_idx_sl ty35 ty26 hsL rfl rfl (by show 0 ≤ _ ∧ _ < (3 : Int); omega)) <|
    sq rfl (q_ld_lat ty26 hsL (.inr (by simp)) hcel rfl rfl (by show _ < 3; omega)) <|
    sq_end) ?_
  clear hF hS; intro a w hF hS
  refine wpl_ef hF hS rfl (ef_allocA ty26) ?_
  clear hF hS; rintro _ _ _ a w ⟨b4, rfl, rfl, rfl⟩ hF hS
  refine wpl_ef hF hS rfl (ef_storeW ty26 0 rfl rfl rfl rfl bQ (oc_cons (sl_one' hn9) (oc_cons (sl_one' hs9) (oc_cons (sl_one' hb99) oc_nil))) bQ) ?_
  clear hF hS; rintro _ _ _ a w ⟨rfl, rfl, rfl⟩ hF hS
  replace hS : St _ [_, _, _, _, _, _, _, _, _, _] [_, _, _] _ := hS
  refine wpList_nil ?_
  refine hK12 _ _ ?_
  clear hK12
  refine wp_seq_k ?_; intro K13 hK13
  refine regl ?_
  refine wpl_sq hF hS (sq rfl (q_move rfl) <|
    sq rfl (q_move rfl) <|
    sq rfl (q_remi rfl rfl (by omega)) <|
    sq rfl (q_idx_sl ty37 ty31 hsK rfl rfl (by show 0 ≤ _ ∧ _ < (3 : Int); omega)) <|
    sq rfl (q_ld_knw ty31 hsK (.inr (by simp)) hkcel rfl rfl (by show _ < 3; omega)) <|
    sq_end) ?_
  clear hF hS; intro a w hF hS
  refine wpl_ef hF hS rfl (ef_allocA ty31) ?_
  clear hF hS; rintro _ _ _ a w ⟨b5, rfl, rfl, rfl⟩ hF hS
  refine wpl_ef hF hS rfl (ef_storeW ty31 0 rfl rfl rfl rfl bQ (oc_cons (sl_one' hk9) (oc_cons (sl_one' hm9) oc_nil)) bQ) ?_
  clear hF hS; rintro _ _ _ a w ⟨rfl, rfl, rfl⟩ hF hS
  replace hS : St _ [_, _, _, _, _, _, _, _, _, _] [_, _, _, _] _ := hS
  refine wpList_nil ?_
  refine hK13 _ _ ?_
  clear hK13
  refine wp_seq_k ?_; intro K14 hK14
  revert hS; revert hF; apply regJ (J := J2 (α0 := Value) (α1 := PH) 204 _ _ _ _ _) #[false, false, false, false, false, false, false, false, false, false] 10 mixed rfl rfl
  ·intro w hF hS
   refine goW_take 0 _ rfl kQ rfl hF (hS.keep sQ (zQ.k.n)) (q_ld_blkW ty26 0 rfl rfl bQ rfl) ?_
   clear hF; intro a hF
   refine goW_take 2 _ rfl kQ rfl hF (hS.keep sQ (zQ.k)) (q_ld_blkW ty31 0 rfl rfl bQ rfl) ?_
   clear hF; intro a hF
   refine gQ 1 rfl rfl hF hS rfl (ef_qt (q_call fn17 rfl (fun w hS => own_ct _ _ _ _ _ w (sl_one' hn9) (Sl.mono (hS.le (.inr (by simp))) hs9) (Sl.mono (hS.le (.inr (by simp))) hb99)) (fun _ _ _ h => h))) ?_
   clear hF hS; rintro _ _ _ a w ⟨rfl, rfl, rfl⟩ hF hS
   refine ⟨⟨.inr (hS.keep sQ (zQ.k)), iQ, trivial⟩, ?_⟩
   refine gQ 3 rfl rfl hF hS rfl (ef_qt (q_call fn23 rfl (fun w hS => known_ct _ _ _ _ w (Sl.mono (hS.le (.inr (by simp))) hk9) (Sl.mono (hS.le (.inr (by simp))) hm9)) (fun _ _ _ h => h))) ?_
   clear hF hS; rintro _ _ _ a w ⟨rfl, rfl, rfl⟩ hF hS
   refine ⟨⟨iQ, iQ, trivial⟩, ?_⟩
   refine gQ 4 rfl rfl hF hS rfl (ef_call fn26 rfl (fun w hS => open_ct _ _ _ _ _ _ _ _ _ (by omega) w (sl_one' hn9) (Sl.mono (hS.le (.inr (by simp))) hs9) (Sl.mono (hS.le (.inr (by simp))) hb99) (Sl.mono (hS.le (.inr (by simp))) hk9) (Sl.mono (hS.le (.inr (by simp))) hm9))) ?_
   clear hF hS; rintro _ _ _ a w ⟨_, _, rfl, rfl, ⟨vA, zA, hzA, rfl, rfl, rfl⟩⟩ hF hS
   refine ⟨⟨iQ, iQ, trivial⟩, ?_⟩
   refine goW_take 5 _ rfl kQ rfl hF (hS.keep sQ zQ) (q_move rfl) ?_
   clear hF; intro a hF
   refine goW_take 6 _ rfl kQ rfl hF (hS.keep sQ zQ) (q_extract rfl rfl) ?_
   clear hF; intro a hF
   refine goW_take 7 _ rfl kQ rfl hF (hS.keep sQ zQ) (q_extract rfl rfl) ?_
   clear hF; intro a hF
   refine goW_take 8 _ rfl kQ rfl hF (hS.keep sQ zQ) (q_assign rfl) ?_
   clear hF; intro a hF
   refine goW_take 9 _ rfl kQ rfl hF (hS.keep sQ zQ) (q_assign rfl) ?_
   clear hF; intro a hF
   exact goW_done kQ (j2_mk vA zA ((And.intro hzA trivial)) (hF.sub (L' := [(16, _), (17, _), (18, _), (19, _), (20, _), (21, _), (22, _)]) ⟨rfl, rfl, rfl, rfl, rfl, rfl, rfl, trivial⟩) hS)
  rintro a w ⟨vA, zA, ⟨hzA, -⟩, hF, hS⟩
  (try dsimp only at hF); (try dsimp only at hS)
  refine hK14 _ _ ?_
  clear hK14
  refine wp_seq_k ?_; intro K15 hK15
  refine regl ?_
  refine wpl_sq hF hS (sq rfl (q_ld_blkW ty26 1 rfl rfl bQ rfl) <|
    sq rfl (q_ld_blkW ty31 0 rfl rfl bQ rfl) <|
    sq_end) ?_
  clear hF hS; intro a w hF hS
  refine wpl_ef hF hS rfl (ef_call fn27 rfl (fun w hS => ropen_ct _ _ _ _ _ _ _ _ _ (by omega) w (sl_one' hn9) (Sl.mono (hS.le (.inr (by simp))) hs9) (Sl.mono (hS.le (.inr (by simp))) hb99) (Sl.mono (hS.le (.inr (by simp))) hk9) (Sl.mono (hS.le (.inr (by simp))) hm9))) ?_
  clear hF hS; rintro _ _ _ a w ⟨_, _, rfl, rfl, ⟨vB, zB, hzB, rfl, rfl, rfl⟩⟩ hF hS
  replace hS : St _ [_, _, _, _, _, _, _, _, _, _, _, _] [_, _, _, _] _ := hS
  refine wpl_sq hF hS (sq rfl (q_move rfl) <|
    sq rfl (q_extract rfl rfl) <|
    sq rfl (q_extract rfl rfl) <|
    sq rfl (q_assign rfl) <|
    sq rfl (q_assign rfl) <|
    sq_end) ?_
  clear hF hS; intro a w hF hS
  refine wpList_nil ?_
  refine hK15 _ _ ?_
  clear hK15
  refine wp_seq_k ?_; intro K16 hK16
  refine regd mixed kQ hF hS (sq rfl (q_ld_blkW ty26 1 rfl rfl bQ rfl) <|
    sq rfl (q_call fn17 rfl (fun w hS => own_ct _ _ _ _ _ w (sl_one' hn9) (Sl.mono (hS.le (.inr (by simp))) hs9) (Sl.mono (hS.le (.inr (by simp))) hb99)) (fun _ _ _ h => h)) <|
    sq rfl (q_ld_blkW ty31 0 rfl rfl bQ rfl) <|
    sq rfl (q_call fn23 rfl (fun w hS => known_ct _ _ _ _ w (Sl.mono (hS.le (.inr (by simp))) hk9) (Sl.mono (hS.le (.inr (by simp))) hm9)) (fun _ _ _ h => h)) <|
    sq rfl (q_call fn28 rfl (fun w hS => next_ct _ _ _ _ _ _ _ _ _ (by omega) w (sl_one' hn9) (Sl.mono (hS.le (.inr (by simp))) hs9) (Sl.mono (hS.le (.inr (by simp))) hb99) (Sl.mono (hS.le (.inr (by simp))) hk9) (Sl.mono (hS.le (.inr (by simp))) hm9)) (fun _ _ _ h => h)) <|
    sq rfl (q_move rfl) <|
    sq rfl (q_extract rfl rfl) <|
    sq rfl (q_extract rfl rfl) <|
    sq rfl (q_extract rfl rfl) <|
    sq rfl (q_assign rfl) <|
    sq rfl (q_assign rfl) <|
    sq rfl (q_assign rfl) <|
    sq_end) ?_
  clear hF hS; intro a w hF hS
  refine hK16 _ _ ?_
  clear hK16
  refine wp_seq_k ?_; intro K17 hK17
  refine reg hF hS (sq rfl (q_ld_blkW ty26 1 rfl rfl bQ rfl) <|
    sq rfl (q_ld_blkW ty31 0 rfl rfl bQ rfl) <|
    sq rfl (q_call fn29 rfl (fun w hS => rnext_ct _ _ _ _ _ _ _ _ _ (by omega) w (sl_one' hn9) (Sl.mono (hS.le (.inr (by simp))) hs9) (Sl.mono (hS.le (.inr (by simp))) hb99) (Sl.mono (hS.le (.inr (by simp))) hk9) (Sl.mono (hS.le (.inr (by simp))) hm9)) (fun _ _ _ h => h)) <|
    sq rfl (q_move rfl) <|
    sq rfl (q_extract rfl rfl) <|
    sq rfl (q_extract rfl rfl) <|
    sq rfl (q_extract rfl rfl) <|
    sq rfl (q_assign rfl) <|
    sq rfl (q_assign rfl) <|
    sq rfl (q_assign rfl) <|
    sq_end) ?_
  clear hF hS; intro a w hF hS
  refine hK17 _ _ ?_
  clear hK17
  refine wp_seq_k ?_; intro K18 hK18
  refine regd mixed kQ hF hS (sq rfl (q_ld_blkW ty26 1 rfl rfl bQ rfl) <|
    sq rfl (q_call fn17 rfl (fun w hS => own_ct _ _ _ _ _ w (sl_one' hn9) (Sl.mono (hS.le (.inr (by simp))) hs9) (Sl.mono (hS.le (.inr (by simp))) hb99)) (fun _ _ _ h => h)) <|
    sq rfl (q_ld_blkW ty31 0 rfl rfl bQ rfl) <|
    sq rfl (q_call fn23 rfl (fun w hS => known_ct _ _ _ _ w (Sl.mono (hS.le (.inr (by simp))) hk9) (Sl.mono (hS.le (.inr (by simp))) hm9)) (fun _ _ _ h => h)) <|
    sq rfl (q_call fn30 rfl (fun w hS => done_ct _ _ _ _ _ _ _ _ _ (by omega) w (sl_one' hn9) (Sl.mono (hS.le (.inr (by simp))) hs9) (Sl.mono (hS.le (.inr (by simp))) hb99) (Sl.mono (hS.le (.inr (by simp))) hk9) (Sl.mono (hS.le (.inr (by simp))) hm9)) (fun _ _ _ h => h)) <|
    sq rfl (q_move rfl) <|
    sq rfl (q_extract rfl rfl) <|
    sq rfl (q_extract rfl rfl) <|
    sq rfl (q_assign rfl) <|
    sq rfl (q_assign rfl) <|
    sq_end) ?_
  clear hF hS; intro a w hF hS
  refine hK18 _ _ ?_
  clear hK18
  refine wp_seq_k ?_; intro K19 hK19
  refine wp_seq_k ?_; intro K20 hK20
  refine regl ?_
  refine wpl_sq hF hS (sq rfl (q_move rfl) <|
    sq rfl (q_move rfl) <|
    sq rfl (q_nf (q_nei rfl rfl) (by simp)) <|
    sq rfl (q_move rfl) <|
    sq_go 118 rfl rfl rfl (q_move rfl) <|
    sq_go 118 rfl rfl rfl (q_move rfl) <|
    sq_go 118 rfl rfl rfl (q_call fn31 rfl (fun w hS => samei_ct _ _ _ _ w (Sl.mono (hS.le (.inr (by simp))) hzA) (Sl.mono (hS.le (.inr (by simp))) hzB)) (fun _ _ _ h => h)) <|
    sq_go 118 rfl rfl rfl (q_nf (q_not rfl) (by simp)) <|
    sq rfl (q_pick_f rfl rfl) <|
    sq rfl (q_move rfl) <|
    sq_go 124 rfl rfl rfl (q_move rfl) <|
    sq_go 124 rfl rfl rfl (q_move rfl) <|
    sq_go 124 rfl rfl rfl (q_nf (q_nei rfl rfl) (by simp)) <|
    sq rfl (q_pick_f rfl rfl) <|
    sq rfl (q_move rfl) <|
    sq_go 129 rfl rfl rfl (q_move rfl) <|
    sq_go 129 rfl rfl rfl (q_move rfl) <|
    sq_go 129 rfl rfl rfl (q_bf (q_net ty4 rfl rfl) (by simp)) <|
    sq rfl (q_pick_f rfl rfl) <|
    sq rfl (q_move rfl) <|
    sq_go 134 rfl rfl rfl (q_move rfl) <|
    sq_go 134 rfl rfl rfl (q_move rfl) <|
    sq_go 134 rfl rfl rfl (q_nf (q_nei rfl rfl) (by simp)) <|
    sq rfl (q_pick_f rfl rfl) <|
    sq rfl (q_move rfl) <|
    sq_go 139 rfl rfl rfl (q_move rfl) <|
    sq_go 139 rfl rfl rfl (q_move rfl) <|
    sq_go 139 rfl rfl rfl (q_nf (q_nei rfl rfl) (by simp)) <|
    sq rfl (q_pick_f rfl rfl) <|
    sq rfl (q_move rfl) <|
    sq_go 144 rfl rfl rfl (q_move rfl) <|
    sq_go 144 rfl rfl rfl (q_move rfl) <|
    sq_go 144 rfl rfl rfl (q_eqi rfl rfl) <|
    sq_go 144 rfl rfl rfl (q_move rfl) <|
    sq_end) ?_
  clear hF hS; intro a w hF hS
  refine wpl_andP 33 148 3 29 144 hF hS rfl rfl rfl rfl rfl rfl rfl (fun hg2 => have hg2 := (by first | exact of_decide_eq_true hg2 | exact hg2); sq_go 148 rfl rfl rfl (q_move rfl) <|
    sq_go 148 rfl rfl rfl (q_len_sl ty22 hzB rfl) <|
    sq_go 148 rfl rfl rfl (q_eqi rfl rfl) <|
    sq_end) rfl rfl ?_
  clear hF hS; intro a w hF hS
  refine wpl_sq hF hS (sq_go 144 rfl rfl rfl (q_bf (q_net ty4 rfl rfl) (by rw [Hu.dn_ref]; simp)) <|
    sq rfl (q_pick_f rfl rfl) <|
    sq_end) ?_
  clear hF hS; intro a w hF hS
  refine wpList_nil ?_
  refine hK20 _ _ ?_
  clear hK20
  refine wp_if hF rfl (fun h => absurd h (by simp)) (fun _ => ?_)
  refine wp_skip ?_
  refine hK19 _ _ ?_
  clear hK19
  refine wp_seq_k ?_; intro K21 hK21
  revert hS; revert hF; apply regJ (J := J2 (α0 := Value) (α1 := PH) 204 _ _ _ _ _) #[false, false, false, false, false, false, false, false, false, false] 10 mixed rfl rfl
  ·intro w hF hS
   refine goW_take 0 _ rfl kQ rfl hF (hS.keep sQ (zQ.k.n)) (q_ld_blkW ty26 0 rfl rfl bQ rfl) ?_
   clear hF; intro a hF
   refine goW_take 2 _ rfl kQ rfl hF (hS.keep sQ (zQ.k)) (q_ld_blkW ty31 0 rfl rfl bQ rfl) ?_
   clear hF; intro a hF
   refine gQ 1 rfl rfl hF hS rfl (ef_qt (q_call fn17 rfl (fun w hS => own_ct _ _ _ _ _ w (sl_one' hn9) (Sl.mono (hS.le (.inr (by simp))) hs9) (Sl.mono (hS.le (.inr (by simp))) hb99)) (fun _ _ _ h => h))) ?_
   clear hF hS; rintro _ _ _ a w ⟨rfl, rfl, rfl⟩ hF hS
   refine ⟨⟨.inr (hS.keep sQ (zQ.k)), iQ, trivial⟩, ?_⟩
   refine gQ 3 rfl rfl hF hS rfl (ef_qt (q_call fn23 rfl (fun w hS => known_ct _ _ _ _ w (Sl.mono (hS.le (.inr (by simp))) hk9) (Sl.mono (hS.le (.inr (by simp))) hm9)) (fun _ _ _ h => h))) ?_
   clear hF hS; rintro _ _ _ a w ⟨rfl, rfl, rfl⟩ hF hS
   refine ⟨⟨iQ, iQ, trivial⟩, ?_⟩
   refine gQ 4 rfl rfl hF hS rfl (ef_call fn32 rfl (fun w hS => found_ct _ _ _ _ _ _ _ _ _ (by omega) w (sl_one' hn9) (Sl.mono (hS.le (.inr (by simp))) hs9) (Sl.mono (hS.le (.inr (by simp))) hb99) (Sl.mono (hS.le (.inr (by simp))) hk9) (Sl.mono (hS.le (.inr (by simp))) hm9))) ?_
   clear hF hS; rintro _ _ _ a w ⟨_, _, rfl, rfl, ⟨vC, zC, hzC, rfl, rfl, rfl⟩⟩ hF hS
   refine ⟨⟨iQ, iQ, trivial⟩, ?_⟩
   refine goW_take 5 _ rfl kQ rfl hF (hS.keep sQ zQ) (q_move rfl) ?_
   clear hF; intro a hF
   refine goW_take 6 _ rfl kQ rfl hF (hS.keep sQ zQ) (q_extract rfl rfl) ?_
   clear hF; intro a hF
   refine goW_take 7 _ rfl kQ rfl hF (hS.keep sQ zQ) (q_extract rfl rfl) ?_
   clear hF; intro a hF
   refine goW_take 8 _ rfl kQ rfl hF (hS.keep sQ zQ) (q_assign rfl) ?_
   clear hF; intro a hF
   refine goW_take 9 _ rfl kQ rfl hF (hS.keep sQ zQ) (q_assign rfl) ?_
   clear hF; intro a hF
   exact goW_done kQ (j2_mk vC zC ((And.intro hzC trivial)) (hF.sub (L' := [(16, _), (17, _), (18, _), (19, _), (20, _), (21, _), (22, _)]) ⟨rfl, rfl, rfl, rfl, rfl, rfl, rfl, trivial⟩) hS)
  rintro a w ⟨vC, zC, ⟨hzC, -⟩, hF, hS⟩
  (try dsimp only at hF); (try dsimp only at hS)
  refine hK21 _ _ ?_
  clear hK21
  refine wp_seq_k ?_; intro K22 hK22
  refine regl ?_
  refine wpl_sq hF hS (sq rfl (q_ld_blkW ty26 1 rfl rfl bQ rfl) <|
    sq rfl (q_ld_blkW ty31 0 rfl rfl bQ rfl) <|
    sq_end) ?_
  clear hF hS; intro a w hF hS
  refine wpl_ef hF hS rfl (ef_call fn33 rfl (fun w hS => rfound_ct _ _ _ _ _ _ _ _ _ (by omega) w (sl_one' hn9) (Sl.mono (hS.le (.inr (by simp))) hs9) (Sl.mono (hS.le (.inr (by simp))) hb99) (Sl.mono (hS.le (.inr (by simp))) hk9) (Sl.mono (hS.le (.inr (by simp))) hm9))) ?_
  clear hF hS; rintro _ _ _ a w ⟨_, _, rfl, rfl, ⟨vD, zD, hzD, rfl, rfl, rfl⟩⟩ hF hS
  replace hS : St _ [_, _, _, _, _, _, _, _, _, _, _, _, _, _] [_, _, _, _] _ := hS
  refine wpl_sq hF hS (sq rfl (q_move rfl) <|
    sq rfl (q_extract rfl rfl) <|
    sq rfl (q_extract rfl rfl) <|
    sq rfl (q_assign rfl) <|
    sq rfl (q_assign rfl) <|
    sq_end) ?_
  clear hF hS; intro a w hF hS
  refine wpList_nil ?_
  refine hK22 _ _ ?_
  clear hK22
  refine wp_seq_k ?_; intro K23 hK23
  revert hS; revert hF; apply regJ (J := J2 (α0 := Value) (α1 := PH) 204 _ _ _ _ _) #[false, false, false, false, false, false, false, false, false, false] 10 mixed rfl rfl
  ·intro w hF hS
   refine goW_take 0 _ rfl kQ rfl hF (hS.keep sQ (zQ.k.n)) (q_ld_blkW ty26 0 rfl rfl bQ rfl) ?_
   clear hF; intro a hF
   refine goW_take 2 _ rfl kQ rfl hF (hS.keep sQ (zQ.k)) (q_ld_blkW ty31 0 rfl rfl bQ rfl) ?_
   clear hF; intro a hF
   refine gQ 1 rfl rfl hF hS rfl (ef_qt (q_call fn17 rfl (fun w hS => own_ct _ _ _ _ _ w (sl_one' hn9) (Sl.mono (hS.le (.inr (by simp))) hs9) (Sl.mono (hS.le (.inr (by simp))) hb99)) (fun _ _ _ h => h))) ?_
   clear hF hS; rintro _ _ _ a w ⟨rfl, rfl, rfl⟩ hF hS
   refine ⟨⟨.inr (hS.keep sQ (zQ.k)), iQ, trivial⟩, ?_⟩
   refine gQ 3 rfl rfl hF hS rfl (ef_qt (q_call fn23 rfl (fun w hS => known_ct _ _ _ _ w (Sl.mono (hS.le (.inr (by simp))) hk9) (Sl.mono (hS.le (.inr (by simp))) hm9)) (fun _ _ _ h => h))) ?_
   clear hF hS; rintro _ _ _ a w ⟨rfl, rfl, rfl⟩ hF hS
   refine ⟨⟨iQ, iQ, trivial⟩, ?_⟩
   refine gQ 4 rfl rfl hF hS rfl (ef_call fn34 rfl (fun w hS => needed_ct _ _ _ _ _ _ _ _ _ (by omega) w (sl_one' hn9) (Sl.mono (hS.le (.inr (by simp))) hs9) (Sl.mono (hS.le (.inr (by simp))) hb99) (Sl.mono (hS.le (.inr (by simp))) hk9) (Sl.mono (hS.le (.inr (by simp))) hm9))) ?_
   clear hF hS; rintro _ _ _ a w ⟨_, _, rfl, rfl, ⟨vE, zE, hzE, rfl, rfl, rfl⟩⟩ hF hS
   refine ⟨⟨iQ, iQ, trivial⟩, ?_⟩
   refine goW_take 5 _ rfl kQ rfl hF (hS.keep sQ zQ) (q_move rfl) ?_
   clear hF; intro a hF
   refine goW_take 6 _ rfl kQ rfl hF (hS.keep sQ zQ) (q_extract rfl rfl) ?_
   clear hF; intro a hF
   refine goW_take 7 _ rfl kQ rfl hF (hS.keep sQ zQ) (q_extract rfl rfl) ?_
   clear hF; intro a hF
   refine goW_take 8 _ rfl kQ rfl hF (hS.keep sQ zQ) (q_assign rfl) ?_
   clear hF; intro a hF
   refine goW_take 9 _ rfl kQ rfl hF (hS.keep sQ zQ) (q_assign rfl) ?_
   clear hF; intro a hF
   exact goW_done kQ (j2_mk vE zE ((And.intro hzE trivial)) (hF.sub (L' := [(16, _), (17, _), (18, _), (19, _), (20, _), (21, _), (22, _), (23, _), (24, _), (33, _), (34, _)]) ⟨rfl, rfl, rfl, rfl, rfl, rfl, rfl, rfl, rfl, rfl, rfl, trivial⟩) hS)
  rintro a w ⟨vE, zE, ⟨hzE, -⟩, hF, hS⟩
  (try dsimp only at hF); (try dsimp only at hS)
  refine hK23 _ _ ?_
  clear hK23
  refine wp_seq_k ?_; intro K24 hK24
  refine regl ?_
  refine wpl_sq hF hS (sq rfl (q_ld_blkW ty26 1 rfl rfl bQ rfl) <|
    sq rfl (q_ld_blkW ty31 0 rfl rfl bQ rfl) <|
    sq_end) ?_
  clear hF hS; intro a w hF hS
  refine wpl_ef hF hS rfl (ef_call fn35 rfl (fun w hS => rneeded_ct _ _ _ _ _ _ _ _ _ (by omega) w (sl_one' hn9) (Sl.mono (hS.le (.inr (by simp))) hs9) (Sl.mono (hS.le (.inr (by simp))) hb99) (Sl.mono (hS.le (.inr (by simp))) hk9) (Sl.mono (hS.le (.inr (by simp))) hm9))) ?_
  clear hF hS; rintro _ _ _ a w ⟨_, _, rfl, rfl, ⟨vF, zF, hzF, rfl, rfl, rfl⟩⟩ hF hS
  replace hS : St _ [_, _, _, _, _, _, _, _, _, _, _, _, _, _, _, _] [_, _, _, _] _ := hS
  refine wpl_sq hF hS (sq rfl (q_move rfl) <|
    sq rfl (q_extract rfl rfl) <|
    sq rfl (q_extract rfl rfl) <|
    sq rfl (q_assign rfl) <|
    sq rfl (q_assign rfl) <|
    sq_end) ?_
  clear hF hS; intro a w hF hS
  refine wpList_nil ?_
  refine hK24 _ _ ?_
  clear hK24
  refine wp_seq_k ?_; intro K25 hK25
  refine reg hF hS (sq rfl (q_move rfl) <|
    sq rfl (q_move rfl) <|
    sq rfl (q_nf (q_nei rfl rfl) (by simp)) <|
    sq rfl (q_move rfl) <|
    sq_go 186 rfl rfl rfl (q_move rfl) <|
    sq_go 186 rfl rfl rfl (q_move rfl) <|
    sq_go 186 rfl rfl rfl (q_call fn31 rfl (fun w hS => samei_ct _ _ _ _ w (Sl.mono (hS.le (.inr (by simp))) hzC) (Sl.mono (hS.le (.inr (by simp))) hzD)) (fun _ _ _ h => h)) <|
    sq_go 186 rfl rfl rfl (q_nf (q_not rfl) (by simp)) <|
    sq rfl (q_pick_f rfl rfl) <|
    sq rfl (q_move rfl) <|
    sq_go 192 rfl rfl rfl (q_move rfl) <|
    sq_go 192 rfl rfl rfl (q_move rfl) <|
    sq_go 192 rfl rfl rfl (q_nf (q_nei rfl rfl) (by simp)) <|
    sq rfl (q_pick_f rfl rfl) <|
    sq rfl (q_move rfl) <|
    sq_go 197 rfl rfl rfl (q_move rfl) <|
    sq_go 197 rfl rfl rfl (q_move rfl) <|
    sq_go 197 rfl rfl rfl (q_call fn31 rfl (fun w hS => samei_ct _ _ _ _ w (Sl.mono (hS.le (.inr (by simp))) hzE) (Sl.mono (hS.le (.inr (by simp))) hzF)) (fun _ _ _ h => h)) <|
    sq_go 197 rfl rfl rfl (q_nf (q_not rfl) (by simp)) <|
    sq rfl (q_pick_f rfl rfl) <|
    sq_end) ?_
  clear hF hS; intro a w hF hS
  refine hK25 _ _ ?_
  clear hK25
  refine wp_if hF rfl (fun h => absurd h (by simp)) (fun _ => ?_)
  refine wp_skip ?_
  refine hK11 _ _ ?_
  clear hK11
  refine reg hF hS (sq rfl (q_move rfl) <|
    sq rfl (q_addi rfl rfl (by omega)) <|
    sq rfl (q_assign rfl) <|
    sq_end) ?_
  clear hF hS; intro a w hF hS
  replace hS := hS.keep (sQ.n.n.n.n.n.n) (sQ.n.n)
  refine ⟨(i + 1), ?_, ?_, hF.sub ⟨rfl, rfl, rfl, trivial⟩, ?_⟩
  ·(try dsimp only); omega
  ·(try dsimp only); omega
  ·exact hS
 ·refine wp_exit ?_
  refine hK7 _ _ ?_
  clear hK7
  refine wp_seq_k ?_; intro K26 hK26
  refine reg hF hS (sq rfl (q_call fn25 rfl (fun w hS => lives_ct w ) (fun _ _ _ h => h)) <|
    sq rfl (q_assign rfl) <|
    sq_end) ?_
  clear hF hS; intro a w hF hS
  refine hK26 _ _ ?_
  clear hK26
  refine wp_ret ?_
  exact fn_ret (rs := [.tmp 12]) rfl hF hS (vs := [_]) ⟨rfl, trivial⟩ zQ zQ (rfl)
end Go.Proofs.Ytefjpigmgmbghaa
