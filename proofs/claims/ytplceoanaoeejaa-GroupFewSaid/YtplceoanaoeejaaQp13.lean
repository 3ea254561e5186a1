/- A text of a proof over this seat: walks over the program's functions and the plain laws that they need. -/
import Derived.Test.YtplceoanaoeejaaQp12
import Derived.Test.YtplceoanaoeejaaGpA
import Derived.Test.YtplceoanaoeejaaFwC
import Derived.Test.YtplceoanaoeejaaFwB
set_option linter.all false
namespace Go.Proofs.Ytplceoanaoeejaa
open Go.Fw


set_option maxRecDepth 4000 in
set_option maxHeartbeats 2000000 in
theorem lawF_ct (v : Value) (l : List Int) (v2 : Value) (m : List Int) (w : World) (hl : Sl encI (ph w) v l) (hm : Sl encI (ph w) v2 m) : Ct Try.prog 7 [v, v2] w (fun r _ _ => r = .bool true) := by
 refine fn_enter Try.func7 rfl Try.ntmps7 (Nat.le_of_ble_eq_true rfl) fun a hF hS => ?_
 refine wp_seq_k ?_; intro K1 hK1
 refine reg hF hS (sq rfl (q_assign rfl) <|
   sq_end) ?_
 clear hF hS; intro a w hF hS
 refine hK1 _ _ ?_
 clear hK1
 refine wp_seq_k ?_; intro K2 hK2
 refine regl ?_
 refine wpl_sq hF hS (sq rfl (q_move rfl) <|
   sq_end) ?_
 clear hF hS; intro a w hF hS
 refine wpl_ef hF hS rfl (ef_call fn27 rfl (fun w hS => family_ct _ _ w (Sl.mono (hS.le zin0) hl))) ?_
 clear hF hS; rintro _ _ _ a w ⟨_, _, rfl, rfl, ⟨nvF, svF, bvF, ns, xs, xb, zF, rfl, hnF, hsF, hbF, lnF, lsF, lbF, leqF, rfl, rfl⟩⟩ hF hS
 replace hS : St _ [_] [] _ := hS
 refine wpl_ef hF hS rfl (ef_allocA ty33) ?_
 clear hF hS; rintro _ _ _ a w ⟨b2, rfl, rfl, rfl⟩ hF hS
 refine wpl_ef hF hS rfl (ef_storeW ty33 0 rfl rfl rfl rfl bQ (oc_cons (sl_one' hnF) (oc_cons (sl_one' hsF) (oc_cons (sl_one' hbF) oc_nil))) bQ) ?_
 clear hF hS; rintro _ _ _ a w ⟨rfl, rfl, rfl⟩ hF hS
 replace hS : St _ [_] [_] _ := hS
 refine wpList_nil ?_
 obtain ⟨heq, hfam, hpos⟩ := leqF
 refine hK2 _ _ ?_
 clear hK2
 refine wp_seq_k ?_; intro K3 hK3
 refine regl ?_
 refine wpl_sq hF hS (sq rfl (q_ld_blkW ty33 0 rfl rfl bQ rfl) <|
   sq rfl (q_move rfl) <|
   sq_end) ?_
 clear hF hS; intro a w hF hS
 refine wpl_ef hF hS rfl (ef_call fn28 rfl (fun w hS => made_ct _ _ _ _ _ _ _ (by omega) w (sl_one' hnF) (Sl.mono (hS.le (.inr (by simp))) hsF) (Sl.mono (hS.le (.inr (by simp))) hbF) (Sl.mono (hS.le zin0) hm))) ?_
 clear hF hS; rintro _ _ _ a w ⟨_, _, rfl, rfl, ⟨vD, mdB, mdC, zD, rfl, hzD, hmL, hmI, hmR, rfl, rfl⟩⟩ hF hS
 replace hS : St _ [_, _] [_] _ := hS
 refine wpl_sq hF hS (sq rfl (q_call fn10 rfl (fun w hS => queue_ct _ _ _ w (Sl.mono (hS.le (.inr (by simp))) hzD)) (fun _ _ _ h => h)) <|
   sq_end) ?_
 clear hF hS; intro a w hF hS
 refine wpl_ef hF hS rfl (ef_allocA ty35) ?_
 clear hF hS; rintro _ _ _ a w ⟨b4, rfl, rfl, rfl⟩ hF hS
 refine wpl_ef hF hS rfl (ef_storeW ty35 0 rfl rfl rfl rfl bQ (oc_cons rfl (oc_cons (sl_one' hzD) oc_nil)) bQ) ?_
 clear hF hS; rintro _ _ _ a w ⟨rfl, rfl, rfl⟩ hF hS
 replace hS : St _ [_, _] [_, _] _ := hS
 refine wpList_nil ?_
 refine hK3 _ _ ?_
 clear hK3
 refine wp_seq_k ?_; intro K4 hK4
 revert hF hS; apply regJ (J := J6 (α0 := Value) (α1 := List Bool) (α2 := PH) (α3 := Value) (α4 := Value) (α5 := PH) 97 _ _ _ _ _) #[false, false, false, false, false, false, false, false, false, false, false, false, false, false] 14 mixed rfl rfl
 ·intro w hF hS
  refine goW_take 0 _ rfl kQ rfl hF (hS.keep sQ (sQ.n)) (q_ld_blkW ty33 0 rfl rfl bQ rfl) ?_
  clear hF; intro a hF
  refine goW_take 2 _ rfl kQ rfl hF (hS.keep sQ (zQ.k)) (q_ld_blkW ty35 0 rfl rfl bQ rfl) ?_
  clear hF; intro a hF
  refine goW_take 3 _ rfl kQ rfl hF (hS.keep sQ (sQ.n)) (q_ld_blkW ty33 0 rfl rfl bQ rfl) ?_
  clear hF; intro a hF
  refine goW_take 4 _ rfl kQ rfl hF (hS.keep sQ zQ) (q_move rfl) ?_
  clear hF; intro a hF
  refine gQ 1 rfl rfl hF hS rfl (ef_qt (q_call fn9 rfl (fun w hS => family9_ct _ _ _ _ _ w (sl_one' hnF) (Sl.mono (hS.le (.inr (by simp))) hsF) (Sl.mono (hS.le (.inr (by simp))) hbF)) (fun _ _ _ h => h))) ?_
  clear hF hS; rintro _ _ _ a w ⟨rfl, rfl, rfl⟩ hF hS
  refine ⟨⟨.inr (hS.keep sQ zQ), .inr (hS.keep sQ (sQ.n)), .inr (hS.keep sQ (zQ.k)), iQ, trivial⟩, ?_⟩
  refine gQ 5 rfl rfl hF hS rfl (ef_call fn29 rfl (fun w hS => marks_ct _ _ _ _ _ _ _ (by omega) w (sl_one' hnF) (Sl.mono (hS.le (.inr (by simp))) hsF) (Sl.mono (hS.le (.inr (by simp))) hbF) (Sl.mono (hS.le zin0) hm))) ?_
  clear hF hS; rintro vMk _ _ a w ⟨_, _, rfl, rfl, ⟨M, zE, hzE, hML, rfl, rfl⟩⟩ hF hS
  refine ⟨⟨iQ, iQ, .inr (hS.keep (sQ.n) (zQ.k)), iQ, trivial⟩, ?_⟩
  refine gQ 6 rfl rfl hF hS rfl (ef_call fn13 rfl (fun w hS => halved_ct _ _ _ _ _ _ _ _ _ _ w (sl_one' hnF) (Sl.mono (hS.le (.inr (by simp))) hsF) (Sl.mono (hS.le (.inr (by simp))) hbF) (Sl.mono (hS.le (.inr (by simp))) hzD) (Sl.mono (hS.le (.inr (by simp))) hzE))) ?_
  clear hF hS; rintro _ _ _ a w ⟨_, _, rfl, rfl, ⟨vT, vK, zT, hzT, hzK, rfl, rfl, rfl⟩⟩ hF hS
  refine ⟨⟨iQ, iQ, iQ, iQ, trivial⟩, ?_⟩
  refine goW_take 7 _ rfl kQ rfl hF (hS.keep sQ zQ) (q_move rfl) ?_
  clear hF; intro a hF
  refine goW_take 8 _ rfl kQ rfl hF (hS.keep sQ zQ) (q_extract rfl rfl) ?_
  clear hF; intro a hF
  refine goW_take 9 _ rfl kQ rfl hF (hS.keep sQ zQ) (q_extract rfl rfl) ?_
  clear hF; intro a hF
  refine goW_take 10 _ rfl kQ rfl hF (hS.keep sQ zQ) (q_extract rfl rfl) ?_
  clear hF; intro a hF
  refine goW_take 11 _ rfl kQ rfl hF (hS.keep sQ zQ) (q_assign rfl) ?_
  clear hF; intro a hF
  refine goW_take 12 _ rfl kQ rfl hF (hS.keep sQ zQ) (q_assign rfl) ?_
  clear hF; intro a hF
  refine goW_take 13 _ rfl kQ rfl hF (hS.keep sQ zQ) (q_assign rfl) ?_
  clear hF; intro a hF
  exact goW_done kQ (j6_mk vMk M zE vT vK zT ((And.intro hzE (And.intro hML (And.intro hzT (And.intro hzK trivial))))) (hF.sub (L' := [(6, _), (7, _), (8, _), (9, _)]) ⟨rfl, rfl, rfl, rfl, trivial⟩) hS)
 rintro a w ⟨vMk, M, zE, vT, vK, zT, ⟨hzE, hML, hzT, hzK, -⟩, hF, hS⟩
 (try dsimp only at hF); (try dsimp only at hS)
 obtain ⟨hB, hC⟩ := hmI hpos
 have hv0 := Gp.vl_ok heq hmL hB hC
 obtain ⟨T, hTq⟩ : ∃ T, T = Gp.hT xs xb M mdB mdC := ⟨_, rfl⟩
 obtain ⟨A9, hAq⟩ : ∃ A, A = Gp.hA xs xb M mdB mdC := ⟨_, rfl⟩
 rw [← hTq] at hzT
 rw [← hAq] at hzK
 have hTl := hzT.1
 have hAl := hzK.1
 refine hK4 _ _ ?_
 clear hK4
 refine wp_seq_k ?_; intro K5 hK5
 refine wp_seq_k ?_; intro K6 hK6
 refine reg hF hS (sq rfl (q_move rfl) <|
   sq rfl (q_nei rfl rfl) <|
   sq_end) ?_
 clear hF hS; intro a w hF hS
 refine hK6 _ _ ?_
 clear hK6
 refine wp_ifn hF rfl (fun hc1 => ?_) (fun hc1 => ?_)
 ·have ho8 : Gp.opn xs xb M mdB mdC = 8 := by cases hgd : Gp.gd xs xb M mdB with
   | true => exact absurd (Gp.opn_ok hv0 hML hgd) hc1
   | false => exact Gp.opn_8 hv0 hML hgd
  refine wp_seq_k ?_; intro K7 hK7
  refine reg hF hS (sq rfl (q_move rfl) <|
    sq rfl (q_dt (q_eqi rfl rfl) (ho8)) <|
    sq rfl (q_move rfl) <|
    sq_go 34 rfl rfl rfl (q_call fn18 rfl (fun w hS => lives_ct w ) (fun _ _ _ h => h)) <|
    sq rfl (q_pick_t rfl rfl) <|
    sq rfl (q_assign rfl) <|
    sq_end) ?_
  clear hF hS; intro a w hF hS
  refine hK7 _ _ ?_
  clear hK7
  refine wp_ret ?_
  exact fn_ret (rs := [.tmp 4]) rfl hF hS (vs := [_]) ⟨rfl, trivial⟩ zQ zQ (rfl)
 ·have hw := Gp.few hc1 hTq hAq
  have hw1 := hw.1
  refine wp_skip ?_
  refine hK5 _ _ ?_
  clear hK5
  refine wp_seq_k ?_; intro K8 hK8
  refine reg hF hS (sq rfl (q_fieldAddr ty35 rfl rfl (s' := 0) kQ) <|
    sq rfl (q_ld_blk1 ty22 0 rfl rfl rfl rfl) <|
    sq rfl (q_len_sl ty22 hzD rfl) <|
    sq rfl (q_fieldAddr ty35 rfl rfl (s' := 0) kQ) <|
    sq rfl (q_ld_blk1 ty22 0 rfl rfl rfl rfl) <|
    sq rfl (q_len_sl ty22 hzD rfl) <|
    sq rfl (q_move rfl) <|
    sq rfl (q_len_sl ty22 hzT rfl) <|
    sq rfl (q_subi rfl rfl (by omega)) <|
    sq rfl (q_call fn19 rfl (fun w hS => most_ct _ _ w ) (fun _ _ _ h => h)) <|
    sq rfl (q_move rfl) <|
    sq rfl (q_extract rfl rfl) <|
    sq rfl (q_extract rfl rfl) <|
    sq rfl (q_assign rfl) <|
    sq rfl (q_assign rfl) <|
    sq_end) ?_
  clear hF hS; intro a w hF hS
  refine hK8 _ _ ?_
  clear hK8
  refine wp_seq_k ?_; intro K9 hK9
  refine wp_seq_k ?_; intro K10 hK10
  refine reg hF hS (sq rfl (q_assign rfl) <|
    sq_end) ?_
  clear hF hS; intro a w hF hS
  refine hK10 _ _ ?_
  clear hK10
  refine wp_block ?_
  obtain ⟨hs0, hhs0, hS⟩ : ∃ h, h = _ ∧ St _ _ h _ := ⟨_, rfl, hS⟩
  refine wp_loopx (γ := Int) (0) (fun (k : Int) => [(12, vi k)]) [(6, _), (7, _), (8, _), (10, _), (11, _)] (fun (k : Int) => hs0) (fun (k : Int) => 0 ≤ k ∧ k ≤ A9.length) (fun (k : Int) => (A9.length - k).toNat) (hF.sub ⟨rfl, rfl, rfl, rfl, rfl, rfl, trivial⟩) (by subst hhs0; exact hS) (by exact ⟨Int.le_refl _, by omega⟩) ?_
  clear hF hS; rintro k a w hfact hF hS
  subst hhs0; (try dsimp only at hfact); (try dsimp only at hF); (try dsimp only at hS)
  obtain ⟨hk0, hk1⟩ := hfact
  replace hS : St _ [_, _, _, _] [_, _] _ := hS
  refine wp_seq_k ?_; intro K11 hK11
  refine wp_seq_k ?_; intro K12 hK12
  refine reg hF hS (sq rfl (q_move rfl) <|
    sq rfl (q_move rfl) <|
    sq rfl (q_len_sl ty22 hzK rfl) <|
    sq rfl (q_lti rfl rfl) <|
    sq_end) ?_
  clear hF hS; intro a w hF hS
  refine hK12 _ _ ?_
  clear hK12
  refine wp_ifd hF rfl (fun hc2 => ?_) (fun hc2 => ?_)
  ·refine wp_skip ?_
   refine hK11 _ _ ?_
   clear hK11
   refine wp_seq_k ?_; intro K13 hK13
   refine wp_block ?_
   refine wp_seq_k ?_; intro K14 hK14
   refine regq mixed kQ hS ?_
   refine wpq_seg hF (sq rfl (q_move rfl) <|
     sq rfl (q_move rfl) <|
     sq rfl (q_idx_sl ty22 ty3 hzK rfl rfl (by omega)) <|
     sq rfl (q_ld_I ty3 hzK (.inr (by simp)) rfl rfl (by omega)) <|
     sq rfl (q_fieldAddr ty35 rfl rfl (s' := 0) kQ) <|
     sq rfl (q_ld_blk1 ty3 0 rfl rfl rfl rfl) <|
     sq rfl (q_eqi rfl rfl) <|
     sq rfl (q_move rfl) <|
     sq_end) ?_
   clear hF; intro a hF
   refine wpq_or 7 63 8 hF rfl rfl rfl rfl rfl (fun hg => have hg := (by first | exact of_decide_eq_false hg | exact hg); sq_go 63 rfl rfl rfl (q_move rfl) <|
     sq_go 63 rfl rfl rfl (q_move rfl) <|
     sq_go 63 rfl rfl rfl (q_slsl_hi ty22 ty3 hzK rfl rfl (by omega)) <|
     sq_go 63 rfl rfl rfl (q_move rfl) <|
     sq_go 63 rfl rfl rfl (q_move rfl) <|
     sq_go 63 rfl rfl rfl (q_idx_sl ty22 ty3 hzK rfl rfl (by omega)) <|
     sq_go 63 rfl rfl rfl (q_ld_I ty3 hzK (.inr (by simp)) rfl rfl (by omega)) <|
     sq_go 63 rfl rfl rfl (q_call fn24 rfl (fun w hS => rin_ct _ _ _ w (Sl.mono (hS.le (.inr (by simp))) (Sl.cut hzK (by omega)))) (fun _ _ _ h => h)) <|
     sq_end) rfl rfl ?_
   clear hF; intro a hF
   refine wpq_nil ?_
   clear hS; intro w hS
   refine hK14 _ _ ?_
   clear hK14
   refine wp_if hF rfl (fun hc3 => ?_) (fun hc3 => ?_)
   ·(try simp only [Bool.or_eq_true, Bool.and_eq_true, Bool.or_eq_false_iff, Bool.and_eq_false_iff, decide_eq_true_eq, decide_eq_false_iff_not, Bool.not_eq_true', Bool.not_eq_false'] at hc3)
    rcases hc3 with h | h
    ·exact (hw.2.1.2 (h ▸ getD_mem (by omega))).elim
    ·exact (Gp.nd_at hw.2.1.1 (by omega) h).elim
   ·(try simp only [Bool.or_eq_true, Bool.and_eq_true, Bool.or_eq_false_iff, Bool.and_eq_false_iff, decide_eq_true_eq, decide_eq_false_iff_not, Bool.not_eq_true', Bool.not_eq_false'] at hc3)
    refine wp_skip ?_
    refine hK13 _ _ ?_
    clear hK13
    refine reg hF hS (sq rfl (q_move rfl) <|
      sq rfl (q_addi rfl rfl (by omega)) <|
      sq rfl (q_assign rfl) <|
      sq_end) ?_
    clear hF hS; intro a w hF hS
    refine ⟨(k + 1), ?_, ?_, hF.sub ⟨rfl, rfl, rfl, rfl, rfl, rfl, trivial⟩, ?_⟩
    ·(try dsimp only); omega
    ·(try dsimp only); omega
    ·exact hS
  ·refine wp_exit ?_
   refine hK9 _ _ ?_
   clear hK9
   refine wp_seq_k ?_; intro K15 hK15
   refine regl ?_
   refine wpl_sq hF hS (sq rfl (q_move rfl) <|
     sq rfl (q_dt (q_eqi rfl rfl) (hw.2.2.2.1)) <|
     sq rfl (q_move rfl) <|
     sq_go 75 rfl rfl rfl (q_move rfl) <|
     sq_go 75 rfl rfl rfl (q_len_sl ty22 hzK rfl) <|
     sq_go 75 rfl rfl rfl (q_move rfl) <|
     sq_go 75 rfl rfl rfl (q_dt (q_lei rfl rfl) (hw.2.2.1)) <|
     sq rfl (q_pick_t rfl rfl) <|
     sq rfl (q_move rfl) <|
     sq_go 81 rfl rfl rfl (q_move rfl) <|
     sq_go 81 rfl rfl rfl (q_len_sl ty22 hzT rfl) <|
     sq_go 81 rfl rfl rfl (q_fieldAddr ty35 rfl rfl (s' := 0) kQ) <|
     sq_go 81 rfl rfl rfl (q_ld_blk1 ty22 0 rfl rfl rfl rfl) <|
     sq_go 81 rfl rfl rfl (q_len_sl ty22 hzD rfl) <|
     sq_go 81 rfl rfl rfl (q_lti rfl rfl) <|
     sq_go 81 rfl rfl rfl (q_move rfl) <|
     sq_end) ?_
   clear hF hS; intro a w hF hS
   refine wpl_orP 15 88 3 8 81 hF hS rfl rfl rfl rfl rfl rfl rfl (fun hg2 => have hg2 := (by first | exact of_decide_eq_false hg2 | exact hg2); sq_go 88 rfl rfl rfl (q_move rfl) <|
     sq_go 88 rfl rfl rfl (q_len_sl ty22 hzK rfl) <|
     sq_go 88 rfl rfl rfl (q_lei rfl rfl) <|
     sq_end) rfl rfl ?_
   clear hF hS; intro a w hF hS
   refine wpl_sq hF hS (sq rfl (q_pick_t rfl rfl) <|
     sq rfl (q_move rfl) <|
     sq_end) ?_
   clear hF hS; intro a w hF hS
   refine wpl_and 21 94 1 hF hS rfl rfl rfl rfl rfl (fun hg => have hg := hg; sq_go 94 rfl rfl rfl (q_call fn18 rfl (fun w hS => lives_ct w ) (fun _ _ _ h => h)) <|
     sq_end) rfl rfl ?_
   clear hF hS; intro a w hF hS
   refine wpl_sq hF hS (sq rfl (q_assign rfl) <|
     sq_end) ?_
   clear hF hS; intro a w hF hS
   refine wpList_nil ?_
   refine hK15 _ _ ?_
   clear hK15
   refine wp_ret ?_
   exact fn_ret (rs := [.tmp 4]) rfl hF hS (vs := [_]) ⟨rfl, trivial⟩ zQ zQ (by have h9 := hw.2.2.2.2; simp; omega)
end Go.Proofs.Ytplceoanaoeejaa
