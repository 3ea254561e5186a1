/- A text of a proof over this seat: walks over the program's functions and the plain laws that they need. -/
import Derived.Test.YtefjpigmgmbghaaHu19
import Derived.Test.YtefjpigmgmbghaaHpA
import Derived.Test.YtefjpigmgmbghaaFwD
import Derived.Test.YtefjpigmgmbghaaFwB
set_option linter.all false
namespace Go.Proofs.Ytefjpigmgmbghaa
open Go.Fw
theorem fn43 : FnOk Try.prog 43 := ⟨_, Try.func43, rfl, by kernel_rfl⟩
theorem fn44 : FnOk Try.prog 44 := ⟨_, Try.func44, rfl, by kernel_rfl⟩

set_option maxRecDepth 4000 in
set_option maxHeartbeats 2000000 in
theorem law35_ct (v : Value) (l : List Int) (v2 : Value) (m : List Int) (v3 : Value) (n : List Int) (v4 : Value) (od : List Int) (w : World) (hl : Sl encI (ph w) v l) (hm : Sl encI (ph w) v2 m) (hn : Sl encI (ph w) v3 n) (ho : Sl encI (ph w) v4 od) : Ct Try.prog 7 [v, v2, v3, v4] w (fun r _ _ => r = .bool true) := by
 refine fn_enter Try.func7 rfl Try.ntmps7 (Nat.le_of_ble_eq_true rfl) fun a hF hS => ?_
 have hol := ho.1
 refine wp_seq_k ?_; intro K1 hK1
 refine reg hF hS (sq rfl (q_assign rfl) <|
   sq_end) ?_
 clear hF hS; intro a w hF hS
 refine hK1 _ _ ?_
 clear hK1
 refine wp_seq_k ?_; intro K2 hK2
 refine regl ?_
 refine wpl_sq hF hS (sq rfl (q_move rfl) <|
   sq_end) ?_
 clear hF hS; intro a w hF hS
 refine wpl_ef hF hS rfl (ef_call fn10 rfl (fun w hS => family_ct _ _ w (Sl.mono (hS.le zin0) hl))) ?_
 clear hF hS; rintro _ _ _ a w ⟨_, _, rfl, rfl, ⟨nvF, svF, bvF, ns, xs, xb, zF, rfl, hnF, hsF, hbF, lnF, lsF, lbF, leqF, rfl, rfl⟩⟩ hF hS
 replace hS : St _ [_] [] _ := hS
 refine wpl_ef hF hS rfl (ef_allocA ty26) ?_
 clear hF hS; rintro _ _ _ a w ⟨b2, rfl, rfl, rfl⟩ hF hS
 refine wpl_ef hF hS rfl (ef_storeW ty26 0 rfl rfl rfl rfl bQ (oc_cons (sl_one' hnF) (oc_cons (sl_one' hsF) (oc_cons (sl_one' hbF) oc_nil))) bQ) ?_
 clear hF hS; rintro _ _ _ a w ⟨rfl, rfl, rfl⟩ hF hS
 replace hS : St _ [_] [_] _ := hS
 refine wpList_nil ?_
 refine hK2 _ _ ?_
 clear hK2
 refine wp_seq_k ?_; intro K3 hK3
 refine regl ?_
 refine wpl_sq hF hS (sq rfl (q_ld_blkW ty26 0 rfl rfl bQ rfl) <|
   sq rfl (q_move rfl) <|
   sq_end) ?_
 clear hF hS; intro a w hF hS
 refine wpl_ef hF hS rfl (ef_call fn11 rfl (fun w hS => keys_ct _ _ _ _ _ _ _ (by first | with_reducible assumption | omega) w (sl_one' hnF) (Sl.mono (hS.le (.inr (by simp))) hsF) (Sl.mono (hS.le (.inr (by simp))) hbF) (Sl.mono (hS.le zin0) hm))) ?_
 clear hF hS; rintro v3 _ _ a w ⟨_, _, rfl, rfl, ⟨zY, hzY, rfl, rfl⟩⟩ hF hS
 replace hS : St _ [_, _] [_] _ := hS
 refine wpl_sq hF hS (sq rfl (q_assign rfl) <|
   sq_end) ?_
 clear hF hS; intro a w hF hS
 refine wpList_nil ?_
 obtain ⟨heq, hfam, hx0⟩ := leqF
 obtain ⟨ks, hks⟩ : ∃ ks, ks = Hu.kyl m xs.length := ⟨_, rfl⟩
 have hkl9 : ks.length = xs.length := by rw [hks, Hu.kyl_len]
 rw [← hks] at hzY
 refine hK3 _ _ ?_
 clear hK3
 refine wp_seq_k ?_; intro K4 hK4
 refine regl ?_
 refine wpl_sq hF hS (sq rfl (q_move rfl) <|
   sq rfl (q_move rfl) <|
   sq_end) ?_
 clear hF hS; intro a w hF hS
 refine wpl_ef hF hS rfl (ef_call fn13 rfl (fun w hS => truth_ct _ _ _ _ (by first | with_reducible assumption | omega) w (Sl.mono (hS.le (.inr (by simp))) hzY) (Sl.mono (hS.le zin0) hn))) ?_
 clear hF hS; rintro v4 _ _ a w ⟨_, _, rfl, rfl, ⟨zU, hzU, rfl, rfl⟩⟩ hF hS
 replace hS : St _ [_, _, _] [_] _ := hS
 refine wpl_sq hF hS (sq rfl (q_assign rfl) <|
   sq_end) ?_
 clear hF hS; intro a w hF hS
 refine wpList_nil ?_
 obtain ⟨bd, hbd⟩ : ∃ bd, bd = Hu.tru n ks ks.length := ⟨_, rfl⟩
 rw [← hbd] at hzU
 have hbdl : bd.length = xs.length := by rw [hbd, Hu.tru_len, hkl9]
 have hcls : Hu.Cls ks bd xs.length := by have := Hu.cls_tru n ks; rw [hkl9] at this; rw [hbd, hkl9]; exact this
 have hR9 := Gu.fam_r hfam
 have hord := Hu.ord_of hfam.1 heq
 have hrun := Hu.run_right hR9 hord hkl9 hbdl hcls
 refine hK4 _ _ ?_
 clear hK4
 refine wp_seq_k ?_; intro K5 hK5
 refine regl ?_
 refine wpl_sq hF hS (sq rfl (q_ld_blkW ty26 0 rfl rfl bQ rfl) <|
   sq rfl (q_move rfl) <|
   sq_end) ?_
 clear hF hS; intro a w hF hS
 refine wpl_ef hF hS rfl (ef_call fn43 rfl (fun w hS => guilty_ct _ _ _ _ _ _ _ (by omega) (by omega) (by omega) w (sl_one' hnF) (Sl.mono (hS.le (.inr (by simp))) hsF) (Sl.mono (hS.le (.inr (by simp))) hbF) (Sl.mono (hS.le (.inr (by simp))) hzU))) ?_
 clear hF hS; rintro v5 _ _ a w ⟨_, _, rfl, rfl, ⟨zG, hzG, rfl, rfl⟩⟩ hF hS
 replace hS : St _ [_, _, _, _] [_] _ := hS
 refine wpl_sq hF hS (sq rfl (q_assign rfl) <|
   sq_end) ?_
 clear hF hS; intro a w hF hS
 refine wpList_nil ?_
 refine hK5 _ _ ?_
 clear hK5
 refine wp_seq_k ?_; intro K6 hK6
 refine regl ?_
 refine wpl_sq hF hS (sq rfl (q_ld_blkW ty26 0 rfl rfl bQ rfl) <|
   sq rfl (q_call fn17 rfl (fun w hS => own_ct _ _ _ _ _ w (sl_one' hnF) (Sl.mono (hS.le (.inr (by simp))) hsF) (Sl.mono (hS.le (.inr (by simp))) hbF)) (fun _ _ _ h => h)) <|
   sq rfl (q_move rfl) <|
   sq rfl (q_move rfl) <|
   sq_end) ?_
 clear hF hS; intro a w hF hS
 refine wpl_ef hF hS rfl (ef_call fn36 rfl (fun w hS => run_ct _ _ _ _ _ _ _ _ _ (by omega) w (sl_one' hnF) (Sl.mono (hS.le (.inr (by simp))) hsF) (Sl.mono (hS.le (.inr (by simp))) hbF) (Sl.mono (hS.le (.inr (by simp))) hzY) (Sl.mono (hS.le (.inr (by simp))) hzU))) ?_
 clear hF hS; rintro _ _ _ a w ⟨_, _, rfl, rfl, ⟨aR, fR, zR, rfl, haR, hfR, rfl, rfl⟩⟩ hF hS
 replace hS : St _ [_, _, _, _, _] [_] _ := hS
 refine wpl_sq hF hS (sq rfl (q_move rfl) <|
   sq rfl (q_extract rfl rfl) <|
   sq rfl (q_extract rfl rfl) <|
   sq rfl (q_extract rfl rfl) <|
   sq rfl (q_assign rfl) <|
   sq rfl (q_assign rfl) <|
   sq rfl (q_assign rfl) <|
   sq_end) ?_
 clear hF hS; intro a w hF hS
 refine wpList_nil ?_
 rw [hrun.2] at hfR
 rw [hrun.1] at hF
 refine hK6 _ _ ?_
 clear hK6
 refine wp_seq_k ?_; intro K7 hK7
 refine wp_seq_k ?_; intro K8 hK8
 refine reg hF hS (sq rfl (q_move rfl) <|
   sq rfl (q_nf (q_nei rfl rfl) (rfl)) <|
   sq rfl (q_move rfl) <|
   sq_go 54 rfl rfl rfl (q_move rfl) <|
   sq_go 54 rfl rfl rfl (q_move rfl) <|
   sq_go 54 rfl rfl rfl (q_call fn31 rfl (fun w hS => samei_ct _ _ _ _ w (Sl.mono (hS.le (.inr (by simp))) hfR) (Sl.mono (hS.le (.inr (by simp))) hzG)) (fun _ _ _ h => h)) <|
   sq_go 54 rfl rfl rfl (q_nf (q_not rfl) (by simp)) <|
   sq rfl (q_pick_f rfl rfl) <|
   sq_end) ?_
 clear hF hS; intro a w hF hS
 refine hK8 _ _ ?_
 clear hK8
 refine wp_if hF rfl (fun h => absurd h (by simp)) (fun _ => ?_)
 refine wp_skip ?_
 refine hK7 _ _ ?_
 clear hK7
 refine wp_seq_k ?_; intro K9 hK9
 refine regl ?_
 refine wpl_sq hF hS (sq rfl (q_ld_blkW ty26 0 rfl rfl bQ rfl) <|
   sq rfl (q_call fn17 rfl (fun w hS => own_ct _ _ _ _ _ w (sl_one' hnF) (Sl.mono (hS.le (.inr (by simp))) hsF) (Sl.mono (hS.le (.inr (by simp))) hbF)) (fun _ _ _ h => h)) <|
   sq rfl (q_move rfl) <|
   sq_end) ?_
 clear hF hS; intro a w hF hS
 refine wpl_ef hF hS rfl (ef_call fn16 rfl (fun w hS => new_ct _ _ _ _ _ _ _ (by omega) w (sl_one' hnF) (Sl.mono (hS.le (.inr (by simp))) hsF) (Sl.mono (hS.le (.inr (by simp))) hbF) (Sl.mono (hS.le (.inr (by simp))) hzY))) ?_
 clear hF hS; rintro _ _ _ a w ⟨_, _, rfl, rfl, ⟨kN, mN, zN, rfl, hkN, hmN, rfl, rfl⟩⟩ hF hS
 replace hS : St _ [_, _, _, _, _, _] [_] _ := hS
 refine wpl_sq hF hS (sq rfl (q_move rfl) <|
   sq rfl (q_extract rfl rfl) <|
   sq rfl (q_extract rfl rfl) <|
   sq_end) ?_
 clear hF hS; intro a w hF hS
 refine wpl_ef hF hS rfl (ef_allocA ty38) ?_
 clear hF hS; rintro _ _ _ a w ⟨b8, rfl, rfl, rfl⟩ hF hS
 refine wpl_ef hF hS rfl (ef_storeW ty38 0 rfl rfl rfl rfl bQ (oc_cons (sl_one' hkN) (oc_cons (sl_one' hmN) oc_nil)) bQ) ?_
 clear hF hS; rintro _ _ _ a w ⟨rfl, rfl, rfl⟩ hF hS
 replace hS : St _ [_, _, _, _, _, _] [_, _] _ := hS
 refine wpl_sq hF hS (sq rfl (q_assign rfl) <|
   sq_end) ?_
 clear hF hS; intro a w hF hS
 refine wpList_nil ?_
 rw [Hu.newK_ok hord hkl9] at hkN hmN hF
 replace hkN : Sl (encA 16) zN kN ks := hkN
 replace hmN : Sl encI zN mN (List.replicate ks.length 0) := hmN
 refine hK9 _ _ ?_
 clear hK9
 refine wp_seq_k ?_; intro K10 hK10
 refine wp_seq_k ?_; intro K11 hK11
 refine reg hF hS (sq rfl (q_move rfl) <|
   sq rfl (q_nf (q_nei rfl rfl) (rfl)) <|
   sq_end) ?_
 clear hF hS; intro a w hF hS
 refine hK11 _ _ ?_
 clear hK11
 refine wp_if hF rfl (fun h => absurd h (by simp)) (fun _ => ?_)
 refine wp_skip ?_
 refine hK10 _ _ ?_
 clear hK10
 refine wp_seq_k ?_; intro K12 hK12
 refine wp_seq_k ?_; intro K13 hK13
 refine reg hF hS (sq rfl (q_assign rfl) <|
   sq_end) ?_
 clear hF hS; intro a w hF hS
 refine hK13 _ _ ?_
 clear hK13
 refine wp_block ?_
 obtain ⟨hs0, hhs0, hS⟩ : ∃ h, h = _ ∧ St _ _ h _ := ⟨_, rfl, hS⟩
 obtain ⟨zs0, hzs0, hS⟩ : ∃ h, h = _ ∧ St _ h _ _ := ⟨_, rfl, hS⟩
 replace hS := hS.dupz (z := zN) (by subst hzs0; simp)
 refine wp_loopz (γ := PH × Value × Value × List Int × Int) (zN, kN, mN, (List.replicate ks.length 0), 0) (fun (gg : PH × Value × Value × List Int × Int) => match gg with | (z, kv, mv, q, i) => z :: zs0) (fun (gg : PH × Value × Value × List Int × Int) => match gg with | (z, kv, mv, q, i) => [(18, vi i)]) [(3, _), (9, _), (11, _), (12, _), (16, _)] (fun (gg : PH × Value × Value × List Int × Int) => match gg with | (z, kv, mv, q, i) => (hs0.set 0 (.blk b8 38 [kv, mv]))) (fun (gg : PH × Value × Value × List Int × Int) => match gg with | (z, kv, mv, q, i) => (Sl (encA 16) z kv ks ∧ Sl encI z mv q) ∧ Hu.Ok9 xs xb ks bd q ∧ (0 ≤ i ∧ i ≤ 40 ∧ i ≤ od.length)) (fun (gg : PH × Value × Value × List Int × Int) => match gg with | (z, kv, mv, q, i) => (40 - i).toNat) (hF.sub ⟨rfl, rfl, rfl, rfl, rfl, rfl, trivial⟩) (by subst hhs0; exact hS) (by exact ⟨⟨hkN, hmN⟩, Hu.ok_new hord hkl9, Int.le_refl _, by omega, by omega⟩) ?_
 clear hF hS; rintro ⟨z, kv, mv, q, i⟩ a w hfact hF hS
 subst hhs0; subst hzs0; (try dsimp only at hfact); (try dsimp only at hF); (try dsimp only at hS)
 obtain ⟨⟨hkz, hmz⟩, hok9, hi0, hi1, hi2⟩ := hfact
 replace hS : St _ [_, _, _, _, _, _, _] [_, _] _ := hS
 refine wp_seq_k ?_; intro K14 hK14
 refine wp_seq_k ?_; intro K15 hK15
 refine regl ?_
 refine wpl_sq hF hS (sq rfl (q_move rfl) <|
   sq rfl (q_move rfl) <|
   sq rfl (q_len_sl ty22 ho rfl) <|
   sq rfl (q_lti rfl rfl) <|
   sq rfl (q_move rfl) <|
   sq_end) ?_
 clear hF hS; intro a w hF hS
 refine wpl_and 4 73 2 hF hS rfl rfl rfl rfl rfl (fun hg => have hg := (by first | exact of_decide_eq_true hg | exact hg); sq_go 73 rfl rfl rfl (q_move rfl) <|
   sq_go 73 rfl rfl rfl (q_lti rfl rfl) <|
   sq_end) rfl rfl ?_
 clear hF hS; intro a w hF hS
 refine wpl_sq hF hS (sq rfl (q_move rfl) <|
   sq_end) ?_
 clear hF hS; intro a w hF hS
 refine wpl_and 8 77 4 hF hS rfl rfl rfl rfl rfl (fun hg => have hg := hg; sq_go 77 rfl rfl rfl (q_fieldAddr ty26 rfl rfl (s' := 0) kQ) <|
   sq_go 77 rfl rfl rfl (q_ld_blk1 ty22 1 rfl rfl rfl rfl) <|
   sq_go 77 rfl rfl rfl (q_len_sl ty22 hsF rfl) <|
   sq_go 77 rfl rfl rfl (q_gti rfl rfl) <|
   sq_end) rfl rfl ?_
 clear hF hS; intro a w hF hS
 refine wpList_nil ?_
 refine hK15 _ _ ?_
 clear hK15
 refine wp_if hF rfl (fun hc3 => ?_) (fun hc3 => ?_)
 ·(try simp only [Bool.or_eq_true, Bool.and_eq_true, Bool.or_eq_false_iff, Bool.and_eq_false_iff, decide_eq_true_eq, decide_eq_false_iff_not, Bool.not_eq_true', Bool.not_eq_false'] at hc3)
  have hri := sl_rng ho (od.getD i.toNat 0) (getD_mem (by omega))
  have har := Gu.arnd_range (n := od.getD i.toNat 0) (m := (xs.length : Int)) (by omega)
  obtain ⟨b, hb9⟩ : ∃ b : Nat, (b : Int) = Gu.arnd (od.getD i.toNat 0) xs.length := ⟨_, Int.toNat_of_nonneg har.1⟩
  refine wp_skip ?_
  refine hK14 _ _ ?_
  clear hK14
  refine wp_seq_k ?_; intro K16 hK16
  refine wp_block ?_
  refine wp_seq_k ?_; intro K17 hK17
  refine regd mixed kQ hF hS (sq rfl (q_move rfl) <|
    sq rfl (q_move rfl) <|
    sq rfl (q_idx_sl ty22 ty3 ho rfl rfl (by omega)) <|
    sq rfl (q_ld_I ty3 ho zin0 rfl rfl (by omega)) <|
    sq rfl (q_fieldAddr ty26 rfl rfl (s' := 0) kQ) <|
    sq rfl (q_ld_blk1 ty22 1 rfl rfl rfl rfl) <|
    sq rfl (q_len_sl ty22 hsF rfl) <|
    sq rfl (q_call fn40 rfl (fun w hS => arnd_ct _ _ (by omega) (by omega) w ) (fun _ _ _ h => h)) <|
    sq rfl (q_assign rfl) <|
    sq_end) ?_
  clear hF hS; intro a w hF hS
  rw [← hb9] at hF
  refine hK17 _ _ ?_
  clear hK17
  refine wp_seq_k ?_; intro K18 hK18
  refine wp_seq_k ?_; intro K19 hK19
  refine reg hF hS (sq rfl (q_fieldAddr ty26 rfl rfl (s' := 0) kQ) <|
    sq rfl (q_ld_blk1 ty24 1 rfl rfl rfl rfl) <|
    sq rfl (q_move rfl) <|
    sq rfl (q_idx_sl ty24 ty4 hbF rfl rfl (by omega)) <|
    sq rfl (q_ld_T ty4 hbF (.inr (by simp)) rfl rfl (by omega)) <|
    sq rfl (q_not rfl) <|
    sq_end) ?_
  clear hF hS; intro a w hF hS
  refine hK19 _ _ ?_
  clear hK19
  refine wp_if hF rfl (fun hc4 => ?_) (fun hc4 => ?_)
  ·refine wp_exit ?_
   refine hK16 _ _ ?_
   clear hK16
   refine reg hF hS (sq rfl (q_move rfl) <|
     sq rfl (q_addi rfl rfl (by omega)) <|
     sq rfl (q_assign rfl) <|
     sq_end) ?_
   clear hF hS; intro a w hF hS
   refine ⟨(z, kv, mv, q, i + 1), ?_, ?_, hF.sub ⟨rfl, rfl, rfl, rfl, rfl, rfl, trivial⟩, ?_⟩
   ·(try dsimp only); omega
   ·exact ⟨⟨hkz, hmz⟩, hok9, by omega, by omega, by omega⟩
   ·exact hS
  ·have hx9 : xb.getD b false = true := by simpa using hc4
   have hfu := Hu.fit_use hok9.fit
   obtain ⟨ht1, hokT, hpar⟩ := Hu.ok_tel hcls hok9 (b := b) (by omega) hx9
   replace ht1 : Hu.telK xs xb ks q (xs.getD (((b : Nat) : Int)).toNat 0) (bd.getD (((b : Nat) : Int)).toNat false) = (ks, (Hu.tlm xb ks q (b : Int) (Hu.markOf (bd.getD b false)) xs.length), 0) := ht1
   have hmon := Hu.ok_mono hok9 hokT hpar
   refine wp_skip ?_
   refine hK18 _ _ ?_
   clear hK18
   refine wp_seq_k ?_; intro K20 hK20
   revert hS; revert hF; apply regJ (J := J4 (α0 := Value) (α1 := Value) (α2 := PH) (α3 := Nat) 199 _ _ _ _ _) #[false, false, false, false, false, false, false, false, false, false, false, false, false, false, false, false, false, false, false] 19 mixed rfl rfl
   ·intro w hF hS
    refine goW_take 0 _ rfl kQ rfl hF (hS.keep sQ (sQ.n)) (q_ld_blkW ty26 0 rfl rfl bQ rfl) ?_
    clear hF; intro a hF
    refine goW_take 2 _ rfl kQ rfl hF (hS.keep sQ (zQ.k)) (q_ld_blkW ty38 0 rfl rfl bQ rfl) ?_
    clear hF; intro a hF
    refine goW_take 3 _ rfl kQ rfl hF (hS.keep sQ zQ) (q_fieldAddr ty26 rfl rfl (s' := 0) kQ) ?_
    clear hF; intro a hF
    refine goW_take 4 _ rfl kQ rfl hF (hS.keep sQ (sQ.n)) (q_ld_blk1 ty22 0 rfl rfl rfl rfl) ?_
    clear hF; intro a hF
    refine goW_take 5 _ rfl kQ rfl hF (hS.keep sQ zQ) (q_move rfl) ?_
    clear hF; intro a hF
    refine goW_take 6 _ rfl kQ rfl hF (hS.keep sQ zQ) (q_idx_sl ty22 ty3 hsF rfl rfl (by omega)) ?_
    clear hF; intro a hF
    refine goW_take 7 _ rfl kQ rfl hF (hS.keep sQ zQ) (q_ld_I ty3 hsF (.inr (by simp)) rfl rfl (by omega)) ?_
    clear hF; intro a hF
    refine goW_take 8 _ rfl kQ rfl hF (hS.keep sQ zQ) (q_move rfl) ?_
    clear hF; intro a hF
    refine goW_take 9 _ rfl kQ rfl hF (hS.keep sQ zQ) (q_move rfl) ?_
    clear hF; intro a hF
    refine goW_take 10 _ rfl kQ rfl hF (hS.keep sQ zQ) (q_idx_sl ty24 ty4 hzU rfl rfl (by omega)) ?_
    clear hF; intro a hF
    refine goW_take 11 _ rfl kQ rfl hF (hS.keep sQ zQ) (q_ld_T ty4 hzU (.inr (by simp)) rfl rfl (by omega)) ?_
    clear hF; intro a hF
    refine goW_fork [1, 16] kQ rfl ⟨?_, ?_, trivial⟩
    ·refine stepW_ef _ rfl rfl hF hS rfl (ef_qt (q_call fn17 rfl (fun w hS => own_ct _ _ _ _ _ w (sl_one' hnF) (Sl.mono (hS.le (.inr (by simp))) hsF) (Sl.mono (hS.le (.inr (by simp))) hbF)) (fun _ _ _ h => h))) ?_
     clear hF hS; rintro _ _ _ a w ⟨rfl, rfl, rfl⟩ hF hS
     refine ⟨⟨.inr (hS.keep sQ zQ), .inr (hS.keep sQ zQ), .inr (hS.keep sQ zQ), .inr (hS.keep sQ zQ), .inr (hS.keep sQ zQ), .inr (hS.keep sQ zQ), .inr (hS.keep sQ zQ), .inr (hS.keep sQ (sQ.n)), .inr (hS.keep sQ zQ), .inr (hS.keep sQ (zQ.k)), iQ, trivial⟩, ?_⟩
     refine goW_fork [12, 16] kQ rfl ⟨?_, ?_, trivial⟩
     ·refine stepW_ef _ rfl rfl hF hS rfl (ef_call fn22 rfl (fun w hS => tell_ct _ _ _ _ _ _ _ _ _ _ _ (by omega) w (sl_one' hnF) (Sl.mono (hS.le (.inr (by simp))) hsF) (Sl.mono (hS.le (.inr (by simp))) hbF) (Sl.mono (hS.le (.inr (by simp))) hkz) (Sl.mono (hS.le (.inr (by simp))) hmz))) ?_
      clear hF hS; rintro _ _ _ a w ⟨_, _, rfl, rfl, ⟨kT, mT, zT, rfl, hkT, hmT, rfl, rfl⟩⟩ hF hS
      refine ⟨⟨iQ, iQ, .inr (hS.keep (sQ.n) zQ), .inr (hS.keep (sQ.n) zQ), iQ, iQ, .inr (hS.keep (sQ.n) zQ), .inr (hS.keep (sQ.n) (sQ.n)), .inr (hS.keep (sQ.n) zQ), iQ, iQ, trivial⟩, ?_⟩
      refine goW_take 13 _ rfl kQ rfl hF (hS.keep sQ zQ) (q_move rfl) ?_
      clear hF; intro a hF
      refine goW_take 14 _ rfl kQ rfl hF (hS.keep sQ zQ) (q_extract rfl rfl) ?_
      clear hF; intro a hF
      refine goW_take 15 _ rfl kQ rfl hF (hS.keep sQ zQ) (q_extract rfl rfl) ?_
      clear hF; intro a hF
      refine gQ 16 rfl rfl hF hS rfl (ef_allocA ty38) ?_
      clear hF hS; rintro _ _ _ a w ⟨b_16_16, rfl, rfl, rfl⟩ hF hS
      refine ⟨⟨.inr (hS.keep sQ zQ), .inr (hS.keep sQ zQ), .inr (hS.keep sQ zQ), iQ, iQ, .inr (hS.keep (sQ.n) zQ), .inr (hS.keep (sQ.n) zQ), iQ, iQ, .inr (hS.keep (sQ.n) zQ), .inr (hS.keep (sQ.n) (sQ.n.n)), .inr (hS.keep (sQ.n) zQ), iQ, iQ, trivial⟩, ?_⟩
      refine gQ 17 rfl rfl hF hS rfl (ef_storeW ty38 0 rfl rfl rfl rfl bQ (oc_cons (sl_one' hkT) (oc_cons (sl_one' hmT) oc_nil)) bQ) ?_
      clear hF hS; rintro _ _ _ a w ⟨rfl, rfl, rfl⟩ hF hS
      refine ⟨⟨.inr (hS.keep sQ zQ), iQ, iQ, iQ, iQ, iQ, iQ, iQ, iQ, iQ, iQ, iQ, iQ, iQ, trivial⟩, ?_⟩
      refine goW_take 18 _ rfl kQ rfl hF (hS.keep sQ zQ) (q_assign rfl) ?_
      clear hF; intro a hF
      exact goW_done kQ (j4_mk kT mT zT b_16_16 ((And.intro hkT (And.intro hmT trivial))) (hF.sub (L' := [(3, _), (9, _), (11, _), (12, _), (16, _), (18, _), (20, _), (21, _)]) ⟨rfl, rfl, rfl, rfl, rfl, rfl, rfl, rfl, trivial⟩) hS)
     ·refine stepW_ef _ rfl rfl hF hS rfl (ef_allocA ty38) ?_
      clear hF hS; rintro _ _ _ a w ⟨b_16_16, rfl, rfl, rfl⟩ hF hS
      refine ⟨⟨.inr (hS.keep sQ zQ), .inr (hS.keep sQ zQ), .inr (hS.keep sQ zQ), .inr (hS.keep sQ zQ), .inr (hS.keep sQ zQ), .inr (hS.keep sQ zQ), .inr (hS.keep sQ zQ), .inr (hS.keep sQ (sQ.n.n)), .inr (hS.keep sQ zQ), .inr (hS.keep sQ (zQ.k.n)), iQ, trivial⟩, ?_⟩
      refine gQ 12 rfl rfl hF hS rfl (ef_call fn22 rfl (fun w hS => tell_ct _ _ _ _ _ _ _ _ _ _ _ (by omega) w (sl_one' hnF) (Sl.mono (hS.le (.inr (by simp))) hsF) (Sl.mono (hS.le (.inr (by simp))) hbF) (Sl.mono (hS.le (.inr (by simp))) hkz) (Sl.mono (hS.le (.inr (by simp))) hmz))) ?_
      clear hF hS; rintro _ _ _ a w ⟨_, _, rfl, rfl, ⟨kT, mT, zT, rfl, hkT, hmT, rfl, rfl⟩⟩ hF hS
      refine ⟨⟨iQ, iQ, .inr (hS.keep (sQ.n) zQ), .inr (hS.keep (sQ.n) zQ), iQ, iQ, .inr (hS.keep (sQ.n) zQ), .inr (hS.keep (sQ.n) (sQ.n.n)), .inr (hS.keep (sQ.n) zQ), iQ, iQ, trivial⟩, ?_⟩
      refine goW_take 13 _ rfl kQ rfl hF (hS.keep sQ zQ) (q_move rfl) ?_
      clear hF; intro a hF
      refine goW_take 14 _ rfl kQ rfl hF (hS.keep sQ zQ) (q_extract rfl rfl) ?_
      clear hF; intro a hF
      refine goW_take 15 _ rfl kQ rfl hF (hS.keep sQ zQ) (q_extract rfl rfl) ?_
      clear hF; intro a hF
      refine gQ 17 rfl rfl hF hS rfl (ef_storeW ty38 0 rfl rfl rfl rfl bQ (oc_cons (sl_one' hkT) (oc_cons (sl_one' hmT) oc_nil)) bQ) ?_
      clear hF hS; rintro _ _ _ a w ⟨rfl, rfl, rfl⟩ hF hS
      refine ⟨⟨.inr (hS.keep sQ zQ), iQ, iQ, iQ, iQ, iQ, iQ, iQ, iQ, iQ, iQ, iQ, iQ, iQ, trivial⟩, ?_⟩
      refine goW_take 18 _ rfl kQ rfl hF (hS.keep sQ zQ) (q_assign rfl) ?_
      clear hF; intro a hF
      exact goW_done kQ (j4_mk kT mT zT b_16_16 ((And.intro hkT (And.intro hmT trivial))) (hF.sub (L' := [(3, _), (9, _), (11, _), (12, _), (16, _), (18, _), (20, _), (21, _)]) ⟨rfl, rfl, rfl, rfl, rfl, rfl, rfl, rfl, trivial⟩) hS)
    ·refine stepW_ef _ rfl rfl hF hS rfl (ef_allocA ty38) ?_
     clear hF hS; rintro _ _ _ a w ⟨b_16_16, rfl, rfl, rfl⟩ hF hS
     refine ⟨⟨.inr (hS.keep sQ zQ), .inr (hS.keep sQ zQ), .inr (hS.keep sQ zQ), .inr (hS.keep sQ zQ), .inr (hS.keep sQ zQ), .inr (hS.keep sQ zQ), .inr (hS.keep sQ zQ), .inr (hS.keep sQ (sQ.n.n)), .inr (hS.keep sQ zQ), .inr (hS.keep sQ (zQ.k.n)), .inr (hS.keep sQ (sQ.n.n)), trivial⟩, ?_⟩
     refine gQ 1 rfl rfl hF hS rfl (ef_qt (q_call fn17 rfl (fun w hS => own_ct _ _ _ _ _ w (sl_one' hnF) (Sl.mono (hS.le (.inr (by simp))) hsF) (Sl.mono (hS.le (.inr (by simp))) hbF)) (fun _ _ _ h => h))) ?_
     clear hF hS; rintro _ _ _ a w ⟨rfl, rfl, rfl⟩ hF hS
     refine ⟨⟨.inr (hS.keep sQ zQ), .inr (hS.keep sQ zQ), .inr (hS.keep sQ zQ), .inr (hS.keep sQ zQ), .inr (hS.keep sQ zQ), .inr (hS.keep sQ zQ), .inr (hS.keep sQ zQ), .inr (hS.keep sQ (sQ.n.n)), .inr (hS.keep sQ zQ), .inr (hS.keep sQ (zQ.k.n)), iQ, trivial⟩, ?_⟩
     refine gQ 12 rfl rfl hF hS rfl (ef_call fn22 rfl (fun w hS => tell_ct _ _ _ _ _ _ _ _ _ _ _ (by omega) w (sl_one' hnF) (Sl.mono (hS.le (.inr (by simp))) hsF) (Sl.mono (hS.le (.inr (by simp))) hbF) (Sl.mono (hS.le (.inr (by simp))) hkz) (Sl.mono (hS.le (.inr (by simp))) hmz))) ?_
     clear hF hS; rintro _ _ _ a w ⟨_, _, rfl, rfl, ⟨kT, mT, zT, rfl, hkT, hmT, rfl, rfl⟩⟩ hF hS
     refine ⟨⟨iQ, iQ, .inr (hS.keep (sQ.n) zQ), .inr (hS.keep (sQ.n) zQ), iQ, iQ, .inr (hS.keep (sQ.n) zQ), .inr (hS.keep (sQ.n) (sQ.n.n)), .inr (hS.keep (sQ.n) zQ), iQ, iQ, trivial⟩, ?_⟩
     refine goW_take 13 _ rfl kQ rfl hF (hS.keep sQ zQ) (q_move rfl) ?_
     clear hF; intro a hF
     refine goW_take 14 _ rfl kQ rfl hF (hS.keep sQ zQ) (q_extract rfl rfl) ?_
     clear hF; intro a hF
     refine goW_take 15 _ rfl kQ rfl hF (hS.keep sQ zQ) (q_extract rfl rfl) ?_
     clear hF; intro a hF
     refine gQ 17 rfl rfl hF hS rfl (ef_storeW ty38 0 rfl rfl rfl rfl bQ (oc_cons (sl_one' hkT) (oc_cons (sl_one' hmT) oc_nil)) bQ) ?_
     clear hF hS; rintro _ _ _ a w ⟨rfl, rfl, rfl⟩ hF hS
     refine ⟨⟨.inr (hS.keep sQ zQ), iQ, iQ, iQ, iQ, iQ, iQ, iQ, iQ, iQ, iQ, iQ, iQ, iQ, trivial⟩, ?_⟩
     refine goW_take 18 _ rfl kQ rfl hF (hS.keep sQ zQ) (q_assign rfl) ?_
     clear hF; intro a hF
     exact goW_done kQ (j4_mk kT mT zT b_16_16 ((And.intro hkT (And.intro hmT trivial))) (hF.sub (L' := [(3, _), (9, _), (11, _), (12, _), (16, _), (18, _), (20, _), (21, _)]) ⟨rfl, rfl, rfl, rfl, rfl, rfl, rfl, rfl, trivial⟩) hS)
   rintro a w ⟨kT, mT, zT, b_16_16, ⟨hkT, hmT, -⟩, hF, hS⟩
   (try dsimp only at hF); (try dsimp only at hS)
   rw [ht1] at hkT hmT hF
   replace hkT : Sl (encA 16) zT kT ks := hkT
   replace hmT : Sl encI zT mT (Hu.tlm xb ks q (b : Int) (Hu.markOf (bd.getD b false)) xs.length) := hmT
   refine hK20 _ _ ?_
   clear hK20
   refine wp_seq_k ?_; intro K21 hK21
   revert hS; revert hF; apply regJ (J := J2 (α0 := Value) (α1 := PH) 199 _ _ _ _ _) #[false, false, false, false, false, false, false, false, false] 9 mixed rfl rfl
   ·intro w hF hS
    refine goW_take 0 _ rfl kQ rfl hF (hS.keep sQ (sQ.n.n)) (q_ld_blkW ty26 0 rfl rfl bQ rfl) ?_
    clear hF; intro a hF
    refine goW_take 2 _ rfl kQ rfl hF (hS.keep sQ (zQ.k.n)) (q_ld_blkW ty38 0 rfl rfl bQ rfl) ?_
    clear hF; intro a hF
    refine gQ 1 rfl rfl hF hS rfl (ef_qt (q_call fn17 rfl (fun w hS => own_ct _ _ _ _ _ w (sl_one' hnF) (Sl.mono (hS.le (.inr (by simp))) hsF) (Sl.mono (hS.le (.inr (by simp))) hbF)) (fun _ _ _ h => h))) ?_
    clear hF hS; rintro _ _ _ a w ⟨rfl, rfl, rfl⟩ hF hS
    refine ⟨⟨.inr (hS.keep sQ (zQ.k.n)), iQ, trivial⟩, ?_⟩
    refine gQ 3 rfl rfl hF hS rfl (ef_call fn32 rfl (fun w hS => found_ct _ _ _ _ _ _ _ _ _ (by omega) w (sl_one' hnF) (Sl.mono (hS.le (.inr (by simp))) hsF) (Sl.mono (hS.le (.inr (by simp))) hbF) (Sl.mono (hS.le (.inr (by simp))) hkz) (Sl.mono (hS.le (.inr (by simp))) hmz))) ?_
    clear hF hS; rintro _ _ _ a w ⟨_, _, rfl, rfl, ⟨vA, zA, hzA, rfl, rfl, rfl⟩⟩ hF hS
    refine ⟨⟨iQ, iQ, trivial⟩, ?_⟩
    refine goW_take 4 _ rfl kQ rfl hF (hS.keep sQ zQ) (q_move rfl) ?_
    clear hF; intro a hF
    refine goW_take 5 _ rfl kQ rfl hF (hS.keep sQ zQ) (q_extract rfl rfl) ?_
    clear hF; intro a hF
    refine goW_take 6 _ rfl kQ rfl hF (hS.keep sQ zQ) (q_extract rfl rfl) ?_
    clear hF; intro a hF
    refine goW_take 7 _ rfl kQ rfl hF (hS.keep sQ zQ) (q_assign rfl) ?_
    clear hF; intro a hF
    refine goW_take 8 _ rfl kQ rfl hF (hS.keep sQ zQ) (q_assign rfl) ?_
    clear hF; intro a hF
    exact goW_done kQ (j2_mk vA zA ((And.intro hzA trivial)) (hF.sub (L' := [(3, _), (9, _), (11, _), (12, _), (16, _), (18, _), (20, _), (21, _), (22, _), (23, _)]) ⟨rfl, rfl, rfl, rfl, rfl, rfl, rfl, rfl, rfl, rfl, trivial⟩) hS)
   rintro a w ⟨vA, zA, ⟨hzA, -⟩, hF, hS⟩
   (try dsimp only at hF); (try dsimp only at hS)
   rw [Hu.kE_t hok9.fit] at hF
   refine hK21 _ _ ?_
   clear hK21
   refine wp_seq_k ?_; intro K22 hK22
   revert hS; revert hF; apply regJ (J := J2 (α0 := Value) (α1 := PH) 199 _ _ _ _ _) #[false, false, false, false, false, false, false, false, false] 9 mixed rfl rfl
   ·intro w hF hS
    refine goW_take 0 _ rfl kQ rfl hF (hS.keep sQ (sQ.n.n)) (q_ld_blkW ty26 0 rfl rfl bQ rfl) ?_
    clear hF; intro a hF
    refine goW_take 2 _ rfl kQ rfl hF (hS.keep sQ (zQ.k)) (q_ld_blkW ty38 0 rfl rfl bQ rfl) ?_
    clear hF; intro a hF
    refine gQ 1 rfl rfl hF hS rfl (ef_qt (q_call fn17 rfl (fun w hS => own_ct _ _ _ _ _ w (sl_one' hnF) (Sl.mono (hS.le (.inr (by simp))) hsF) (Sl.mono (hS.le (.inr (by simp))) hbF)) (fun _ _ _ h => h))) ?_
    clear hF hS; rintro _ _ _ a w ⟨rfl, rfl, rfl⟩ hF hS
    refine ⟨⟨.inr (hS.keep sQ (zQ.k)), iQ, trivial⟩, ?_⟩
    refine gQ 3 rfl rfl hF hS rfl (ef_call fn32 rfl (fun w hS => found_ct _ _ _ _ _ _ _ _ _ (by omega) w (sl_one' hnF) (Sl.mono (hS.le (.inr (by simp))) hsF) (Sl.mono (hS.le (.inr (by simp))) hbF) (Sl.mono (hS.le (.inr (by simp))) hkT) (Sl.mono (hS.le (.inr (by simp))) hmT))) ?_
    clear hF hS; rintro _ _ _ a w ⟨_, _, rfl, rfl, ⟨vB, zB, hzB, rfl, rfl, rfl⟩⟩ hF hS
    refine ⟨⟨iQ, iQ, trivial⟩, ?_⟩
    refine goW_take 4 _ rfl kQ rfl hF (hS.keep sQ zQ) (q_move rfl) ?_
    clear hF; intro a hF
    refine goW_take 5 _ rfl kQ rfl hF (hS.keep sQ zQ) (q_extract rfl rfl) ?_
    clear hF; intro a hF
    refine goW_take 6 _ rfl kQ rfl hF (hS.keep sQ zQ) (q_extract rfl rfl) ?_
    clear hF; intro a hF
    refine goW_take 7 _ rfl kQ rfl hF (hS.keep sQ zQ) (q_assign rfl) ?_
    clear hF; intro a hF
    refine goW_take 8 _ rfl kQ rfl hF (hS.keep sQ zQ) (q_assign rfl) ?_
    clear hF; intro a hF
    exact goW_done kQ (j2_mk vB zB ((And.intro hzB trivial)) (hF.sub (L' := [(3, _), (9, _), (11, _), (12, _), (16, _), (18, _), (20, _), (21, _), (22, _), (23, _), (24, _), (25, _)]) ⟨rfl, rfl, rfl, rfl, rfl, rfl, rfl, rfl, rfl, rfl, rfl, rfl, trivial⟩) hS)
   rintro a w ⟨vB, zB, ⟨hzB, -⟩, hF, hS⟩
   (try dsimp only at hF); (try dsimp only at hS)
   rw [Hu.kE_t hokT.fit] at hF
   refine hK22 _ _ ?_
   clear hK22
   refine wp_seq_k ?_; intro K23 hK23
   revert hS; revert hF; apply regJ (J := J2 (α0 := Value) (α1 := PH) 199 _ _ _ _ _) #[false, false, false, false, false, false, false, false, false] 9 mixed rfl rfl
   ·intro w hF hS
    refine goW_take 0 _ rfl kQ rfl hF (hS.keep sQ (sQ.n.n)) (q_ld_blkW ty26 0 rfl rfl bQ rfl) ?_
    clear hF; intro a hF
    refine goW_take 2 _ rfl kQ rfl hF (hS.keep sQ (zQ.k.n)) (q_ld_blkW ty38 0 rfl rfl bQ rfl) ?_
    clear hF; intro a hF
    refine gQ 1 rfl rfl hF hS rfl (ef_qt (q_call fn17 rfl (fun w hS => own_ct _ _ _ _ _ w (sl_one' hnF) (Sl.mono (hS.le (.inr (by simp))) hsF) (Sl.mono (hS.le (.inr (by simp))) hbF)) (fun _ _ _ h => h))) ?_
    clear hF hS; rintro _ _ _ a w ⟨rfl, rfl, rfl⟩ hF hS
    refine ⟨⟨.inr (hS.keep sQ (zQ.k.n)), iQ, trivial⟩, ?_⟩
    refine gQ 3 rfl rfl hF hS rfl (ef_call fn26 rfl (fun w hS => open_ct _ _ _ _ _ _ _ _ _ (by omega) w (sl_one' hnF) (Sl.mono (hS.le (.inr (by simp))) hsF) (Sl.mono (hS.le (.inr (by simp))) hbF) (Sl.mono (hS.le (.inr (by simp))) hkz) (Sl.mono (hS.le (.inr (by simp))) hmz))) ?_
    clear hF hS; rintro _ _ _ a w ⟨_, _, rfl, rfl, ⟨vC, zC, hzC, rfl, rfl, rfl⟩⟩ hF hS
    refine ⟨⟨iQ, iQ, trivial⟩, ?_⟩
    refine goW_take 4 _ rfl kQ rfl hF (hS.keep sQ zQ) (q_move rfl) ?_
    clear hF; intro a hF
    refine goW_take 5 _ rfl kQ rfl hF (hS.keep sQ zQ) (q_extract rfl rfl) ?_
    clear hF; intro a hF
    refine goW_take 6 _ rfl kQ rfl hF (hS.keep sQ zQ) (q_extract rfl rfl) ?_
    clear hF; intro a hF
    refine goW_take 7 _ rfl kQ rfl hF (hS.keep sQ zQ) (q_assign rfl) ?_
    clear hF; intro a hF
    refine goW_take 8 _ rfl kQ rfl hF (hS.keep sQ zQ) (q_assign rfl) ?_
    clear hF; intro a hF
    exact goW_done kQ (j2_mk vC zC ((And.intro hzC trivial)) (hF.sub (L' := [(3, _), (9, _), (11, _), (12, _), (16, _), (18, _), (20, _), (21, _), (22, _), (23, _), (24, _), (25, _), (26, _), (27, _)]) ⟨rfl, rfl, rfl, rfl, rfl, rfl, rfl, rfl, rfl, rfl, rfl, rfl, rfl, rfl, trivial⟩) hS)
   rintro a w ⟨vC, zC, ⟨hzC, -⟩, hF, hS⟩
   (try dsimp only at hF); (try dsimp only at hS)
   rw [Hu.kE_t hok9.fit] at hF
   refine hK23 _ _ ?_
   clear hK23
   refine wp_seq_k ?_; intro K24 hK24
   revert hS; revert hF; apply regJ (J := J2 (α0 := Value) (α1 := PH) 199 _ _ _ _ _) #[false, false, false, false, false, false, false, false, false] 9 mixed rfl rfl
   ·intro w hF hS
    refine goW_take 0 _ rfl kQ rfl hF (hS.keep sQ (sQ.n.n)) (q_ld_blkW ty26 0 rfl rfl bQ rfl) ?_
    clear hF; intro a hF
    refine goW_take 2 _ rfl kQ rfl hF (hS.keep sQ (zQ.k)) (q_ld_blkW ty38 0 rfl rfl bQ rfl) ?_
    clear hF; intro a hF
    refine gQ 1 rfl rfl hF hS rfl (ef_qt (q_call fn17 rfl (fun w hS => own_ct _ _ _ _ _ w (sl_one' hnF) (Sl.mono (hS.le (.inr (by simp))) hsF) (Sl.mono (hS.le (.inr (by simp))) hbF)) (fun _ _ _ h => h))) ?_
    clear hF hS; rintro _ _ _ a w ⟨rfl, rfl, rfl⟩ hF hS
    refine ⟨⟨.inr (hS.keep sQ (zQ.k)), iQ, trivial⟩, ?_⟩
    refine gQ 3 rfl rfl hF hS rfl (ef_call fn26 rfl (fun w hS => open_ct _ _ _ _ _ _ _ _ _ (by omega) w (sl_one' hnF) (Sl.mono (hS.le (.inr (by simp))) hsF) (Sl.mono (hS.le (.inr (by simp))) hbF) (Sl.mono (hS.le (.inr (by simp))) hkT) (Sl.mono (hS.le (.inr (by simp))) hmT))) ?_
    clear hF hS; rintro _ _ _ a w ⟨_, _, rfl, rfl, ⟨vD, zD, hzD, rfl, rfl, rfl⟩⟩ hF hS
    refine ⟨⟨iQ, iQ, trivial⟩, ?_⟩
    refine goW_take 4 _ rfl kQ rfl hF (hS.keep sQ zQ) (q_move rfl) ?_
    clear hF; intro a hF
    refine goW_take 5 _ rfl kQ rfl hF (hS.keep sQ zQ) (q_extract rfl rfl) ?_
    clear hF; intro a hF
    refine goW_take 6 _ rfl kQ rfl hF (hS.keep sQ zQ) (q_extract rfl rfl) ?_
    clear hF; intro a hF
    refine goW_take 7 _ rfl kQ rfl hF (hS.keep sQ zQ) (q_assign rfl) ?_
    clear hF; intro a hF
    refine goW_take 8 _ rfl kQ rfl hF (hS.keep sQ zQ) (q_assign rfl) ?_
    clear hF; intro a hF
    exact goW_done kQ (j2_mk vD zD ((And.intro hzD trivial)) (hF.sub (L' := [(3, _), (9, _), (11, _), (12, _), (16, _), (18, _), (20, _), (21, _), (22, _), (23, _), (24, _), (25, _), (26, _), (27, _), (28, _), (29, _)]) ⟨rfl, rfl, rfl, rfl, rfl, rfl, rfl, rfl, rfl, rfl, rfl, rfl, rfl, rfl, rfl, rfl, trivial⟩) hS)
   rintro a w ⟨vD, zD, ⟨hzD, -⟩, hF, hS⟩
   (try dsimp only at hF); (try dsimp only at hS)
   rw [Hu.kE_t hokT.fit] at hF
   refine hK24 _ _ ?_
   clear hK24
   refine wp_seq_k ?_; intro K25 hK25
   refine wp_seq_k ?_; intro K26 hK26
   refine reg hF hS (sq rfl (q_move rfl) <|
     sq rfl (q_nf (q_nei rfl rfl) (rfl)) <|
     sq rfl (q_move rfl) <|
     sq_go 145 rfl rfl rfl (q_move rfl) <|
     sq_go 145 rfl rfl rfl (q_nf (q_nei rfl rfl) (rfl)) <|
     sq rfl (q_pick_f rfl rfl) <|
     sq rfl (q_move rfl) <|
     sq_go 149 rfl rfl rfl (q_move rfl) <|
     sq_go 149 rfl rfl rfl (q_nf (q_nei rfl rfl) (rfl)) <|
     sq rfl (q_pick_f rfl rfl) <|
     sq rfl (q_move rfl) <|
     sq_go 153 rfl rfl rfl (q_move rfl) <|
     sq_go 153 rfl rfl rfl (q_nf (q_nei rfl rfl) (rfl)) <|
     sq rfl (q_pick_f rfl rfl) <|
     sq rfl (q_move rfl) <|
     sq_go 157 rfl rfl rfl (q_move rfl) <|
     sq_go 157 rfl rfl rfl (q_nf (q_nei rfl rfl) (rfl)) <|
     sq rfl (q_pick_f rfl rfl) <|
     sq rfl (q_move rfl) <|
     sq_go 161 rfl rfl rfl (q_move rfl) <|
     sq_go 161 rfl rfl rfl (q_move rfl) <|
     sq_go 161 rfl rfl rfl (q_call fn44 rfl (fun w hS => among_ct _ _ _ _ w (Sl.mono (hS.le (.inr (by simp))) hzA) (Sl.mono (hS.le (.inr (by simp))) hzB)) (fun _ _ _ h => h)) <|
     sq_go 161 rfl rfl rfl (q_bf (q_not rfl) (by rw [hmon.1]; rfl)) <|
     sq rfl (q_pick_f rfl rfl) <|
     sq rfl (q_move rfl) <|
     sq_go 167 rfl rfl rfl (q_move rfl) <|
     sq_go 167 rfl rfl rfl (q_move rfl) <|
     sq_go 167 rfl rfl rfl (q_call fn44 rfl (fun w hS => among_ct _ _ _ _ w (Sl.mono (hS.le (.inr (by simp))) hzD) (Sl.mono (hS.le (.inr (by simp))) hzC)) (fun _ _ _ h => h)) <|
     sq_go 167 rfl rfl rfl (q_bf (q_not rfl) (by rw [hmon.2]; rfl)) <|
     sq rfl (q_pick_f rfl rfl) <|
     sq_end) ?_
   clear hF hS; intro a w hF hS
   refine hK26 _ _ ?_
   clear hK26
   refine wp_if hF rfl (fun h => absurd h (by simp)) (fun _ => ?_)
   refine wp_skip ?_
   refine hK25 _ _ ?_
   clear hK25
   refine wp_seq_k ?_; intro K27 hK27
   refine regd mixed kQ hF hS (sq rfl (q_ld_blkW ty26 2 rfl rfl bQ rfl) <|
     sq rfl (q_call fn17 rfl (fun w hS => own_ct _ _ _ _ _ w (sl_one' hnF) (Sl.mono (hS.le (.inr (by simp))) hsF) (Sl.mono (hS.le (.inr (by simp))) hbF)) (fun _ _ _ h => h)) <|
     sq rfl (q_ld_blkW ty38 0 rfl rfl bQ rfl) <|
     sq rfl (q_call fn30 rfl (fun w hS => done_ct _ _ _ _ _ _ _ _ _ (by omega) w (sl_one' hnF) (Sl.mono (hS.le (.inr (by simp))) hsF) (Sl.mono (hS.le (.inr (by simp))) hbF) (Sl.mono (hS.le (.inr (by simp))) hkT) (Sl.mono (hS.le (.inr (by simp))) hmT)) (fun _ _ _ h => h)) <|
     sq rfl (q_move rfl) <|
     sq rfl (q_extract rfl rfl) <|
     sq rfl (q_extract rfl rfl) <|
     sq rfl (q_assign rfl) <|
     sq rfl (q_assign rfl) <|
     sq_end) ?_
   clear hF hS; intro a w hF hS
   rw [Hu.kE_t hokT.fit] at hF
   refine hK27 _ _ ?_
   clear hK27
   refine wp_seq_k ?_; intro K28 hK28
   refine wp_seq_k ?_; intro K29 hK29
   refine regl ?_
   refine wpl_sq hF hS (sq rfl (q_move rfl) <|
     sq rfl (q_nf (q_nei rfl rfl) (rfl)) <|
     sq rfl (q_move rfl) <|
     sq_go 182 rfl rfl rfl (q_move rfl) <|
     sq_go 182 rfl rfl rfl (q_move rfl) <|
     sq_end) ?_
   clear hF hS; intro a w hF hS
   refine wpl_andP 4 184 4 2 182 hF hS rfl rfl rfl rfl rfl rfl rfl (fun hg2 => have hg2 := hg2; sq_go 184 rfl rfl rfl (q_move rfl) <|
     sq_go 184 rfl rfl rfl (q_move rfl) <|
     sq_go 184 rfl rfl rfl (q_call fn31 rfl (fun w hS => samei_ct _ _ _ _ w (Sl.mono (hS.le (.inr (by simp))) hzB) (Sl.mono (hS.le (.inr (by simp))) hzG)) (fun _ _ _ h => h)) <|
     sq_go 184 rfl rfl rfl (q_not rfl) <|
     sq_end) rfl rfl ?_
   clear hF hS; intro a w hF hS
   refine wpl_sq hF hS (sq rfl (q_pick_f rfl rfl) <|
     sq rfl (q_move rfl) <|
     sq_end) ?_
   clear hF hS; intro a w hF hS
   refine wpl_or 11 191 4 hF hS rfl rfl rfl rfl rfl (fun hg => have hg := hg; sq_go 191 rfl rfl rfl (q_move rfl) <|
     sq_go 191 rfl rfl rfl (q_move rfl) <|
     sq_go 191 rfl rfl rfl (q_call fn44 rfl (fun w hS => among_ct _ _ _ _ w (Sl.mono (hS.le (.inr (by simp))) hzB) (Sl.mono (hS.le (.inr (by simp))) hzG)) (fun _ _ _ h => h)) <|
     sq_go 191 rfl rfl rfl (q_not rfl) <|
     sq_end) rfl rfl ?_
   clear hF hS; intro a w hF hS
   refine wpList_nil ?_
   refine hK29 _ _ ?_
   clear hK29
   refine wp_if hF rfl (fun hc6 => ?_) (fun hc6 => ?_)
   ·(try simp only [Bool.or_eq_true, Bool.and_eq_true, Bool.or_eq_false_iff, Bool.and_eq_false_iff, decide_eq_true_eq, decide_eq_false_iff_not, Bool.not_eq_true', Bool.not_eq_false'] at hc6)
    rcases hc6 with ⟨h1, h2⟩ | h1
    ·exact absurd (Hu.ok_done hR9 hokT h1) h2
    ·rw [Hu.ok_among hokT] at h1; cases h1
   ·(try simp only [Bool.or_eq_true, Bool.and_eq_true, Bool.or_eq_false_iff, Bool.and_eq_false_iff, decide_eq_true_eq, decide_eq_false_iff_not, Bool.not_eq_true', Bool.not_eq_false'] at hc6)
    refine wp_skip ?_
    refine hK28 _ _ ?_
    clear hK28
    refine regl ?_
    refine wpl_sq hF hS (sq rfl (q_ld_blkW ty38 0 rfl rfl bQ rfl) <|
      sq_end) ?_
    clear hF hS; intro a w hF hS
    refine wpl_ef hF hS rfl (ef_storeW ty38 1 rfl rfl rfl rfl bQ (oc_cons (sl_one' hkT) (oc_cons (sl_one' hmT) oc_nil)) bQ) ?_
    clear hF hS; rintro _ _ _ a w ⟨rfl, rfl, rfl⟩ hF hS
    replace hS : St _ [_, _, _, _, _, _, _, _, _, _, _, _] [_, _, _] _ := hS
    refine wpList_nil ?_
    refine hK16 _ _ ?_
    clear hK16
    refine reg hF hS (sq rfl (q_move rfl) <|
      sq rfl (q_addi rfl rfl (by omega)) <|
      sq rfl (q_assign rfl) <|
      sq_end) ?_
    clear hF hS; intro a w hF hS
    replace hS := hS.keep (sQ.n.k.n.n.n.n) (sQ.n)
    refine ⟨(zT, kT, mT, (Hu.tlm xb ks q (b : Int) (Hu.markOf (bd.getD b false)) xs.length), i + 1), ?_, ?_, hF.sub ⟨rfl, rfl, rfl, rfl, rfl, rfl, trivial⟩, ?_⟩
    ·(try dsimp only); omega
    ·exact ⟨⟨hkT, hmT⟩, hokT, by omega, by omega, by omega⟩
    ·exact hS
 ·(try simp only [Bool.or_eq_true, Bool.and_eq_true, Bool.or_eq_false_iff, Bool.and_eq_false_iff, decide_eq_true_eq, decide_eq_false_iff_not, Bool.not_eq_true', Bool.not_eq_false'] at hc3)
  refine wp_exit ?_
  refine hK12 _ _ ?_
  clear hK12
  refine wp_seq_k ?_; intro K30 hK30
  refine reg hF hS (sq rfl (q_call fn25 rfl (fun w hS => lives_ct w ) (fun _ _ _ h => h)) <|
    sq rfl (q_assign rfl) <|
    sq_end) ?_
  clear hF hS; intro a w hF hS
  refine hK30 _ _ ?_
  clear hK30
  refine wp_ret ?_
  exact fn_ret (rs := [.tmp 8]) rfl hF hS (vs := [_]) ⟨rfl, trivial⟩ zQ zQ (rfl)
end Go.Proofs.Ytefjpigmgmbghaa
