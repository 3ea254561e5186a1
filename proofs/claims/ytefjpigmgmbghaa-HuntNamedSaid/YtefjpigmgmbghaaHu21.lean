/- A text of a proof over this seat: walks over the program's functions and the plain laws that they need. -/
import Derived.Test.YtefjpigmgmbghaaHu20
import Derived.Test.YtefjpigmgmbghaaHpA
import Derived.Test.YtefjpigmgmbghaaFwD
import Derived.Test.YtefjpigmgmbghaaFwB
set_option linter.all false
namespace Go.Proofs.Ytefjpigmgmbghaa
open Go.Fw


set_option maxRecDepth 4000 in
set_option maxHeartbeats 2000000 in
theorem law36_ct (v : Value) (l : List Int) (v2 : Value) (m : List Int) (v3 : Value) (n : List Int) (v4 : Value) (rs : List Int) (w : World) (hl : Sl encI (ph w) v l) (hm : Sl encI (ph w) v2 m) (hn : Sl encI (ph w) v3 n) (ho : Sl encI (ph w) v4 rs) : Ct Try.prog 8 [v, v2, v3, v4] w (fun r _ _ => r = .bool true) := by
 refine fn_enter Try.func8 rfl Try.ntmps8 (Nat.le_of_ble_eq_true rfl) fun a hF hS => ?_
 have hol := ho.1
 refine wp_seq_k ?_; intro K1 hK1
 refine reg hF hS (sq rfl (q_assign rfl) <|
   sq_end) ?_
 clear hF hS; intro a w hF hS
 refine hK1 _ _ ?_
 clear hK1
 refine wp_seq_k ?_; intro K2 hK2
 refine regl ?_
 refine wpl_sq hF hS (sq rfl (q_move rfl) <|
   sq_end) ?_
 clear hF hS; intro a w hF hS
 refine wpl_ef hF hS rfl (ef_call fn10 rfl (fun w hS => family_ct _ _ w (Sl.mono (hS.le zin0) hl))) ?_
 clear hF hS; rintro _ _ _ a w ⟨_, _, rfl, rfl, ⟨nvF, svF, bvF, ns, xs, xb, zF, rfl, hnF, hsF, hbF, lnF, lsF, lbF, leqF, rfl, rfl⟩⟩ hF hS
 replace hS : St _ [_] [] _ := hS
 refine wpl_ef hF hS rfl (ef_allocA ty26) ?_
 clear hF hS; rintro _ _ _ a w ⟨b2, rfl, rfl, rfl⟩ hF hS
 refine wpl_ef hF hS rfl (ef_storeW ty26 0 rfl rfl rfl rfl bQ (oc_cons (sl_one' hnF) (oc_cons (sl_one' hsF) (oc_cons (sl_one' hbF) oc_nil))) bQ) ?_
 clear hF hS; rintro _ _ _ a w ⟨rfl, rfl, rfl⟩ hF hS
 replace hS : St _ [_] [_] _ := hS
 refine wpList_nil ?_
 refine hK2 _ _ ?_
 clear hK2
 refine wp_seq_k ?_; intro K3 hK3
 refine regl ?_
 refine wpl_sq hF hS (sq rfl (q_ld_blkW ty26 0 rfl rfl bQ rfl) <|
   sq rfl (q_move rfl) <|
   sq_end) ?_
 clear hF hS; intro a w hF hS
 refine wpl_ef hF hS rfl (ef_call fn11 rfl (fun w hS => keys_ct _ _ _ _ _ _ _ (by first | with_reducible assumption | omega) w (sl_one' hnF) (Sl.mono (hS.le (.inr (by simp))) hsF) (Sl.mono (hS.le (.inr (by simp))) hbF) (Sl.mono (hS.le zin0) hm))) ?_
 clear hF hS; rintro v3 _ _ a w ⟨_, _, rfl, rfl, ⟨zY, hzY, rfl, rfl⟩⟩ hF hS
 replace hS : St _ [_, _] [_] _ := hS
 refine wpl_sq hF hS (sq rfl (q_assign rfl) <|
   sq_end) ?_
 clear hF hS; intro a w hF hS
 refine wpList_nil ?_
 obtain ⟨heq, hfam, hx0⟩ := leqF
 obtain ⟨ks, hks⟩ : ∃ ks, ks = Hu.kyl m xs.length := ⟨_, rfl⟩
 have hkl9 : ks.length = xs.length := by rw [hks, Hu.kyl_len]
 rw [← hks] at hzY
 refine hK3 _ _ ?_
 clear hK3
 refine wp_seq_k ?_; intro K4 hK4
 refine regl ?_
 refine wpl_sq hF hS (sq rfl (q_move rfl) <|
   sq rfl (q_move rfl) <|
   sq_end) ?_
 clear hF hS; intro a w hF hS
 refine wpl_ef hF hS rfl (ef_call fn13 rfl (fun w hS => truth_ct _ _ _ _ (by first | with_reducible assumption | omega) w (Sl.mono (hS.le (.inr (by simp))) hzY) (Sl.mono (hS.le zin0) hn))) ?_
 clear hF hS; rintro v4 _ _ a w ⟨_, _, rfl, rfl, ⟨zU, hzU, rfl, rfl⟩⟩ hF hS
 replace hS : St _ [_, _, _] [_] _ := hS
 refine wpl_sq hF hS (sq rfl (q_assign rfl) <|
   sq_end) ?_
 clear hF hS; intro a w hF hS
 refine wpList_nil ?_
 obtain ⟨bd, hbd⟩ : ∃ bd, bd = Hu.tru n ks ks.length := ⟨_, rfl⟩
 rw [← hbd] at hzU
 have hbdl : bd.length = xs.length := by rw [hbd, Hu.tru_len, hkl9]
 have hcls : Hu.Cls ks bd xs.length := by have := Hu.cls_tru n ks; rw [hkl9] at this; rw [hbd, hkl9]; exact this
 have hR9 := Gu.fam_r hfam
 have hord := Hu.ord_of hfam.1 heq
 have hrun := Hu.run_right hR9 hord hkl9 hbdl hcls
 obtain ⟨AA, MM, hN1, hN2, hN3, hN4, hN5, hN6, hN7, hN8, hN9⟩ := Hu.run_named (bad := bd) hfam hord hkl9 hbdl hcls
 have hk16 : ∀ j, j < ks.length → (ks.getD j []).length = 16 := fun j hj => by have := hzY.rep (i := j) (x := ks[j]) (by simp [hj]); rw [List.getD_eq_getElem?_getD, List.getElem?_eq_getElem hj]; exact this.1
 refine hK4 _ _ ?_
 clear hK4
 refine wp_seq_k ?_; intro K5 hK5
 refine regl ?_
 refine wpl_sq hF hS (sq rfl (q_ld_blkW ty26 0 rfl rfl bQ rfl) <|
   sq rfl (q_call fn17 rfl (fun w hS => own_ct _ _ _ _ _ w (sl_one' hnF) (Sl.mono (hS.le (.inr (by simp))) hsF) (Sl.mono (hS.le (.inr (by simp))) hbF)) (fun _ _ _ h => h)) <|
   sq rfl (q_move rfl) <|
   sq rfl (q_move rfl) <|
   sq_end) ?_
 clear hF hS; intro a w hF hS
 refine wpl_ef hF hS rfl (ef_call fn36 rfl (fun w hS => run_ct _ _ _ _ _ _ _ _ _ (by omega) w (sl_one' hnF) (Sl.mono (hS.le (.inr (by simp))) hsF) (Sl.mono (hS.le (.inr (by simp))) hbF) (Sl.mono (hS.le (.inr (by simp))) hzY) (Sl.mono (hS.le (.inr (by simp))) hzU))) ?_
 clear hF hS; rintro _ _ _ a w ⟨_, _, rfl, rfl, ⟨aR, fR, zR, rfl, haR, hfR, rfl, rfl⟩⟩ hF hS
 replace hS : St _ [_, _, _, _] [_] _ := hS
 refine wpl_sq hF hS (sq rfl (q_move rfl) <|
   sq rfl (q_extract rfl rfl) <|
   sq rfl (q_extract rfl rfl) <|
   sq rfl (q_extract rfl rfl) <|
   sq rfl (q_assign rfl) <|
   sq rfl (q_assign rfl) <|
   sq rfl (q_assign rfl) <|
   sq_end) ?_
 clear hF hS; intro a w hF hS
 refine wpList_nil ?_
 rw [hN1] at haR
 rw [hN2] at hfR
 rw [hrun.1] at hF
 obtain ⟨FF, hFF⟩ : ∃ f, f = Hu.fndL xs xb ks MM := ⟨_, rfl⟩
 rw [← hFF] at hfR
 refine hK5 _ _ ?_
 clear hK5
 refine wp_seq_k ?_; intro K6 hK6
 refine regl ?_
 refine wpl_sq hF hS (sq rfl (q_ld_blkW ty26 0 rfl rfl bQ rfl) <|
   sq rfl (q_call fn17 rfl (fun w hS => own_ct _ _ _ _ _ w (sl_one' hnF) (Sl.mono (hS.le (.inr (by simp))) hsF) (Sl.mono (hS.le (.inr (by simp))) hbF)) (fun _ _ _ h => h)) <|
   sq rfl (q_move rfl) <|
   sq_end) ?_
 clear hF hS; intro a w hF hS
 refine wpl_ef hF hS rfl (ef_call fn16 rfl (fun w hS => new_ct _ _ _ _ _ _ _ (by omega) w (sl_one' hnF) (Sl.mono (hS.le (.inr (by simp))) hsF) (Sl.mono (hS.le (.inr (by simp))) hbF) (Sl.mono (hS.le (.inr (by simp))) hzY))) ?_
 clear hF hS; rintro _ _ _ a w ⟨_, _, rfl, rfl, ⟨kN, mN, zN, rfl, hkN, hmN, rfl, rfl⟩⟩ hF hS
 replace hS : St _ [_, _, _, _, _] [_] _ := hS
 refine wpl_sq hF hS (sq rfl (q_move rfl) <|
   sq rfl (q_extract rfl rfl) <|
   sq rfl (q_extract rfl rfl) <|
   sq_end) ?_
 clear hF hS; intro a w hF hS
 refine wpl_ef hF hS rfl (ef_allocA ty38) ?_
 clear hF hS; rintro _ _ _ a w ⟨b7, rfl, rfl, rfl⟩ hF hS
 refine wpl_ef hF hS rfl (ef_storeW ty38 0 rfl rfl rfl rfl bQ (oc_cons (sl_one' hkN) (oc_cons (sl_one' hmN) oc_nil)) bQ) ?_
 clear hF hS; rintro _ _ _ a w ⟨rfl, rfl, rfl⟩ hF hS
 replace hS : St _ [_, _, _, _, _] [_, _] _ := hS
 refine wpl_sq hF hS (sq rfl (q_assign rfl) <|
   sq_end) ?_
 clear hF hS; intro a w hF hS
 refine wpList_nil ?_
 rw [Hu.newK_ok hord hkl9] at hkN hmN hF
 replace hkN : Sl (encA 16) zN kN ks := hkN
 replace hmN : Sl encI zN mN (List.replicate ks.length 0) := hmN
 refine hK6 _ _ ?_
 clear hK6
 refine wp_seq_k ?_; intro K7 hK7
 refine wp_seq_k ?_; intro K8 hK8
 refine reg hF hS (sq rfl (q_move rfl) <|
   sq rfl (q_nf (q_nei rfl rfl) (rfl)) <|
   sq rfl (q_move rfl) <|
   sq_go 57 rfl rfl rfl (q_move rfl) <|
   sq_go 57 rfl rfl rfl (q_nf (q_nei rfl rfl) (rfl)) <|
   sq rfl (q_pick_f rfl rfl) <|
   sq_end) ?_
 clear hF hS; intro a w hF hS
 refine hK8 _ _ ?_
 clear hK8
 refine wp_if hF rfl (fun h => absurd h (by simp)) (fun _ => ?_)
 refine wp_skip ?_
 refine hK7 _ _ ?_
 clear hK7
 refine wp_seq_k ?_; intro K9 hK9
 refine wp_seq_k ?_; intro K10 hK10
 refine reg hF hS (sq rfl (q_assign rfl) <|
   sq_end) ?_
 clear hF hS; intro a w hF hS
 refine hK10 _ _ ?_
 clear hK10
 refine wp_block ?_
 obtain ⟨hs0, hhs0, hS⟩ : ∃ h, h = _ ∧ St _ _ h _ := ⟨_, rfl, hS⟩
 obtain ⟨zs0, hzs0, hS⟩ : ∃ h, h = _ ∧ St _ h _ _ := ⟨_, rfl, hS⟩
 replace hS := hS.dupz (z := zN) (by subst hzs0; simp)
 refine wp_loopz (γ := PH × Value × Value × List Int × Int) (zN, kN, mN, (List.replicate ks.length 0), 0) (fun (gg : PH × Value × Value × List Int × Int) => match gg with | (z, kv, mv, q, i) => z :: zs0) (fun (gg : PH × Value × Value × List Int × Int) => match gg with | (z, kv, mv, q, i) => [(17, vi i)]) [(3, _), (9, _), (10, _), (11, _), (12, _), (13, _), (15, _)] (fun (gg : PH × Value × Value × List Int × Int) => match gg with | (z, kv, mv, q, i) => (hs0.set 0 (.blk b7 38 [kv, mv]))) (fun (gg : PH × Value × Value × List Int × Int) => match gg with | (z, kv, mv, q, i) => (Sl (encA 16) z kv ks ∧ Sl encI z mv q) ∧ q = (Hu.runS xs xb ks bd i.toNat).1 ∧ (0 ≤ i ∧ i ≤ AA.length)) (fun (gg : PH × Value × Value × List Int × Int) => match gg with | (z, kv, mv, q, i) => (AA.length - i).toNat) (hF.sub ⟨rfl, rfl, rfl, rfl, rfl, rfl, rfl, rfl, trivial⟩) (by subst hhs0; exact hS) (by exact ⟨⟨hkN, hmN⟩, rfl, Int.le_refl _, by omega⟩) ?_
 clear hF hS; rintro ⟨z, kv, mv, q, i⟩ a w hfact hF hS
 subst hhs0; subst hzs0; (try dsimp only at hfact); (try dsimp only at hF); (try dsimp only at hS)
 obtain ⟨⟨hkz, hmz⟩, hq9, hi0, hi1⟩ := hfact
 replace hS : St _ [_, _, _, _, _, _] [_, _] _ := hS
 refine wp_seq_k ?_; intro K11 hK11
 refine wp_seq_k ?_; intro K12 hK12
 refine reg hF hS (sq rfl (q_move rfl) <|
   sq rfl (q_move rfl) <|
   sq rfl (q_len_sl ty22 haR rfl) <|
   sq rfl (q_lti rfl rfl) <|
   sq_end) ?_
 clear hF hS; intro a w hF hS
 refine hK12 _ _ ?_
 clear hK12
 refine wp_ifd hF rfl (fun hc2 => ?_) (fun hc2 => ?_)
 ·obtain ⟨b, hb1, hb2, hb3, hb4, hb5⟩ := hN8 i.toNat (by omega)
  rw [← hq9] at hb3 hb4 hb5
  have hfu := Hu.fit_use hb5
  obtain ⟨q2, hq2⟩ : ∃ q2, q2 = (Hu.runS xs xb ks bd (i.toNat + 1)).1 := ⟨_, rfl⟩
  rw [← hq2] at hb4
  have ht1 : Hu.telK xs xb ks q (AA.getD i.toNat 0) (bd.getD (((b : Nat) : Int)).toNat false) = (ks, q2, 0) := hb4
  refine wp_skip ?_
  refine hK11 _ _ ?_
  clear hK11
  refine wp_seq_k ?_; intro K13 hK13
  refine wp_block ?_
  refine wp_seq_k ?_; intro K14 hK14
  refine regd mixed kQ hF hS (sq rfl (q_ld_blkW ty26 1 rfl rfl bQ rfl) <|
    sq rfl (q_move rfl) <|
    sq rfl (q_move rfl) <|
    sq rfl (q_idx_sl ty22 ty3 haR rfl rfl (by omega)) <|
    sq rfl (q_ld_I ty3 haR (.inr (by simp)) rfl rfl (by omega)) <|
    sq rfl (q_call fn45 rfl (fun w hS => rix_ct _ _ _ _ _ _ w (sl_one' hnF) (Sl.mono (hS.le (.inr (by simp))) hsF) (Sl.mono (hS.le (.inr (by simp))) hbF)) (fun _ _ _ h => h)) <|
    sq rfl (q_assign rfl) <|
    sq_end) ?_
  clear hF hS; intro a w hF hS
  rw [hb2] at hF
  refine hK14 _ _ ?_
  clear hK14
  refine wp_seq_k ?_; intro K15 hK15
  refine wp_seq_k ?_; intro K16 hK16
  refine reg hF hS (sq rfl (q_move rfl) <|
    sq rfl (q_df (q_lti rfl rfl) (by omega)) <|
    sq rfl (q_move rfl) <|
    sq_go 75 rfl rfl rfl (q_fieldAddr ty38 rfl rfl (s' := 0) kQ) <|
    sq_go 75 rfl rfl rfl (q_ld_blk1 ty22 0 rfl rfl rfl rfl) <|
    sq_go 75 rfl rfl rfl (q_move rfl) <|
    sq_go 75 rfl rfl rfl (q_max rfl rfl) <|
    sq_go 75 rfl rfl rfl (q_idx_sl ty22 ty3 hmz rfl rfl (by omega)) <|
    sq_go 75 rfl rfl rfl (q_ld_I ty3 hmz (.inr (by simp)) rfl rfl (by omega)) <|
    sq_go 75 rfl rfl rfl (q_nf (q_nei rfl rfl) (by rw [show (max ((b : Nat) : Int) 0).toNat = b by omega, hb3])) <|
    sq rfl (q_pick_f rfl rfl) <|
    sq_end) ?_
  clear hF hS; intro a w hF hS
  refine hK16 _ _ ?_
  clear hK16
  refine wp_if hF rfl (fun h => absurd h (by simp)) (fun _ => ?_)
  refine wp_skip ?_
  refine hK15 _ _ ?_
  clear hK15
  refine wp_seq_k ?_; intro K17 hK17
  revert hS; revert hF; apply regJ (J := J4 (α0 := Value) (α1 := Value) (α2 := PH) (α3 := Nat) 230 _ _ _ _ _) #[false, false, false, false, false, false, false, false, false, false, false, false, false, false, false, false, false, false] 18 mixed rfl rfl
  ·intro w hF hS
   refine goW_take 0 _ rfl kQ rfl hF (hS.keep sQ (sQ.n)) (q_ld_blkW ty26 0 rfl rfl bQ rfl) ?_
   clear hF; intro a hF
   refine goW_take 2 _ rfl kQ rfl hF (hS.keep sQ (zQ.k)) (q_ld_blkW ty38 0 rfl rfl bQ rfl) ?_
   clear hF; intro a hF
   refine goW_take 3 _ rfl kQ rfl hF (hS.keep sQ zQ) (q_move rfl) ?_
   clear hF; intro a hF
   refine goW_take 4 _ rfl kQ rfl hF (hS.keep sQ zQ) (q_move rfl) ?_
   clear hF; intro a hF
   refine goW_take 5 _ rfl kQ rfl hF (hS.keep sQ zQ) (q_idx_sl ty22 ty3 haR rfl rfl (by omega)) ?_
   clear hF; intro a hF
   refine goW_take 6 _ rfl kQ rfl hF (hS.keep sQ zQ) (q_ld_I ty3 haR (.inr (by simp)) rfl rfl (by omega)) ?_
   clear hF; intro a hF
   refine goW_take 7 _ rfl kQ rfl hF (hS.keep sQ zQ) (q_move rfl) ?_
   clear hF; intro a hF
   refine goW_take 8 _ rfl kQ rfl hF (hS.keep sQ zQ) (q_move rfl) ?_
   clear hF; intro a hF
   refine goW_take 9 _ rfl kQ rfl hF (hS.keep sQ zQ) (q_idx_sl ty24 ty4 hzU rfl rfl (by omega)) ?_
   clear hF; intro a hF
   refine goW_take 10 _ rfl kQ rfl hF (hS.keep sQ zQ) (q_ld_T ty4 hzU (.inr (by simp)) rfl rfl (by omega)) ?_
   clear hF; intro a hF
   refine goW_fork [1, 15] kQ rfl ⟨?_, ?_, trivial⟩
   ·refine stepW_ef _ rfl rfl hF hS rfl (ef_qt (q_call fn17 rfl (fun w hS => own_ct _ _ _ _ _ w (sl_one' hnF) (Sl.mono (hS.le (.inr (by simp))) hsF) (Sl.mono (hS.le (.inr (by simp))) hbF)) (fun _ _ _ h => h))) ?_
    clear hF hS; rintro _ _ _ a w ⟨rfl, rfl, rfl⟩ hF hS
    refine ⟨⟨.inr (hS.keep sQ zQ), .inr (hS.keep sQ zQ), .inr (hS.keep sQ zQ), .inr (hS.keep sQ zQ), .inr (hS.keep sQ zQ), .inr (hS.keep sQ zQ), .inr (hS.keep sQ zQ), .inr (hS.keep sQ zQ), .inr (hS.keep sQ (zQ.k)), iQ, trivial⟩, ?_⟩
    refine goW_fork [11, 15] kQ rfl ⟨?_, ?_, trivial⟩
    ·refine stepW_ef _ rfl rfl hF hS rfl (ef_call fn22 rfl (fun w hS => tell_ct _ _ _ _ _ _ _ _ _ _ _ (by omega) w (sl_one' hnF) (Sl.mono (hS.le (.inr (by simp))) hsF) (Sl.mono (hS.le (.inr (by simp))) hbF) (Sl.mono (hS.le (.inr (by simp))) hkz) (Sl.mono (hS.le (.inr (by simp))) hmz))) ?_
     clear hF hS; rintro _ _ _ a w ⟨_, _, rfl, rfl, ⟨kT, mT, zT, rfl, hkT, hmT, rfl, rfl⟩⟩ hF hS
     refine ⟨⟨iQ, iQ, .inr (hS.keep (sQ.n) zQ), .inr (hS.keep (sQ.n) zQ), iQ, iQ, .inr (hS.keep (sQ.n) zQ), .inr (hS.keep (sQ.n) zQ), iQ, iQ, trivial⟩, ?_⟩
     refine goW_take 12 _ rfl kQ rfl hF (hS.keep sQ zQ) (q_move rfl) ?_
     clear hF; intro a hF
     refine goW_take 13 _ rfl kQ rfl hF (hS.keep sQ zQ) (q_extract rfl rfl) ?_
     clear hF; intro a hF
     refine goW_take 14 _ rfl kQ rfl hF (hS.keep sQ zQ) (q_extract rfl rfl) ?_
     clear hF; intro a hF
     refine gQ 15 rfl rfl hF hS rfl (ef_allocA ty38) ?_
     clear hF hS; rintro _ _ _ a w ⟨b_14_15, rfl, rfl, rfl⟩ hF hS
     refine ⟨⟨.inr (hS.keep sQ zQ), .inr (hS.keep sQ zQ), .inr (hS.keep sQ zQ), iQ, iQ, .inr (hS.keep (sQ.n) zQ), .inr (hS.keep (sQ.n) zQ), iQ, iQ, .inr (hS.keep (sQ.n) zQ), .inr (hS.keep (sQ.n) zQ), iQ, iQ, trivial⟩, ?_⟩
     refine gQ 16 rfl rfl hF hS rfl (ef_storeW ty38 0 rfl rfl rfl rfl bQ (oc_cons (sl_one' hkT) (oc_cons (sl_one' hmT) oc_nil)) bQ) ?_
     clear hF hS; rintro _ _ _ a w ⟨rfl, rfl, rfl⟩ hF hS
     refine ⟨⟨.inr (hS.keep sQ zQ), iQ, iQ, iQ, iQ, iQ, iQ, iQ, iQ, iQ, iQ, iQ, iQ, trivial⟩, ?_⟩
     refine goW_take 17 _ rfl kQ rfl hF (hS.keep sQ zQ) (q_assign rfl) ?_
     clear hF; intro a hF
     exact goW_done kQ (j4_mk kT mT zT b_14_15 ((And.intro hkT (And.intro hmT trivial))) (hF.sub (L' := [(3, _), (9, _), (10, _), (11, _), (12, _), (13, _), (15, _), (17, _), (19, _), (20, _)]) ⟨rfl, rfl, rfl, rfl, rfl, rfl, rfl, rfl, rfl, rfl, trivial⟩) hS)
    ·refine stepW_ef _ rfl rfl hF hS rfl (ef_allocA ty38) ?_
     clear hF hS; rintro _ _ _ a w ⟨b_14_15, rfl, rfl, rfl⟩ hF hS
     refine ⟨⟨.inr (hS.keep sQ zQ), .inr (hS.keep sQ zQ), .inr (hS.keep sQ zQ), .inr (hS.keep sQ zQ), .inr (hS.keep sQ zQ), .inr (hS.keep sQ zQ), .inr (hS.keep sQ zQ), .inr (hS.keep sQ zQ), .inr (hS.keep sQ (zQ.k.n)), iQ, trivial⟩, ?_⟩
     refine gQ 11 rfl rfl hF hS rfl (ef_call fn22 rfl (fun w hS => tell_ct _ _ _ _ _ _ _ _ _ _ _ (by omega) w (sl_one' hnF) (Sl.mono (hS.le (.inr (by simp))) hsF) (Sl.mono (hS.le (.inr (by simp))) hbF) (Sl.mono (hS.le (.inr (by simp))) hkz) (Sl.mono (hS.le (.inr (by simp))) hmz))) ?_
     clear hF hS; rintro _ _ _ a w ⟨_, _, rfl, rfl, ⟨kT, mT, zT, rfl, hkT, hmT, rfl, rfl⟩⟩ hF hS
     refine ⟨⟨iQ, iQ, .inr (hS.keep (sQ.n) zQ), .inr (hS.keep (sQ.n) zQ), iQ, iQ, .inr (hS.keep (sQ.n) zQ), .inr (hS.keep (sQ.n) zQ), iQ, iQ, trivial⟩, ?_⟩
     refine goW_take 12 _ rfl kQ rfl hF (hS.keep sQ zQ) (q_move rfl) ?_
     clear hF; intro a hF
     refine goW_take 13 _ rfl kQ rfl hF (hS.keep sQ zQ) (q_extract rfl rfl) ?_
     clear hF; intro a hF
     refine goW_take 14 _ rfl kQ rfl hF (hS.keep sQ zQ) (q_extract rfl rfl) ?_
     clear hF; intro a hF
     refine gQ 16 rfl rfl hF hS rfl (ef_storeW ty38 0 rfl rfl rfl rfl bQ (oc_cons (sl_one' hkT) (oc_cons (sl_one' hmT) oc_nil)) bQ) ?_
     clear hF hS; rintro _ _ _ a w ⟨rfl, rfl, rfl⟩ hF hS
     refine ⟨⟨.inr (hS.keep sQ zQ), iQ, iQ, iQ, iQ, iQ, iQ, iQ, iQ, iQ, iQ, iQ, iQ, trivial⟩, ?_⟩
     refine goW_take 17 _ rfl kQ rfl hF (hS.keep sQ zQ) (q_assign rfl) ?_
     clear hF; intro a hF
     exact goW_done kQ (j4_mk kT mT zT b_14_15 ((And.intro hkT (And.intro hmT trivial))) (hF.sub (L' := [(3, _), (9, _), (10, _), (11, _), (12, _), (13, _), (15, _), (17, _), (19, _), (20, _)]) ⟨rfl, rfl, rfl, rfl, rfl, rfl, rfl, rfl, rfl, rfl, trivial⟩) hS)
   ·refine stepW_ef _ rfl rfl hF hS rfl (ef_allocA ty38) ?_
    clear hF hS; rintro _ _ _ a w ⟨b_14_15, rfl, rfl, rfl⟩ hF hS
    refine ⟨⟨.inr (hS.keep sQ zQ), .inr (hS.keep sQ zQ), .inr (hS.keep sQ zQ), .inr (hS.keep sQ zQ), .inr (hS.keep sQ zQ), .inr (hS.keep sQ zQ), .inr (hS.keep sQ zQ), .inr (hS.keep sQ zQ), .inr (hS.keep sQ (zQ.k.n)), .inr (hS.keep sQ (sQ.n.n)), trivial⟩, ?_⟩
    refine gQ 1 rfl rfl hF hS rfl (ef_qt (q_call fn17 rfl (fun w hS => own_ct _ _ _ _ _ w (sl_one' hnF) (Sl.mono (hS.le (.inr (by simp))) hsF) (Sl.mono (hS.le (.inr (by simp))) hbF)) (fun _ _ _ h => h))) ?_
    clear hF hS; rintro _ _ _ a w ⟨rfl, rfl, rfl⟩ hF hS
    refine ⟨⟨.inr (hS.keep sQ zQ), .inr (hS.keep sQ zQ), .inr (hS.keep sQ zQ), .inr (hS.keep sQ zQ), .inr (hS.keep sQ zQ), .inr (hS.keep sQ zQ), .inr (hS.keep sQ zQ), .inr (hS.keep sQ zQ), .inr (hS.keep sQ (zQ.k.n)), iQ, trivial⟩, ?_⟩
    refine gQ 11 rfl rfl hF hS rfl (ef_call fn22 rfl (fun w hS => tell_ct _ _ _ _ _ _ _ _ _ _ _ (by omega) w (sl_one' hnF) (Sl.mono (hS.le (.inr (by simp))) hsF) (Sl.mono (hS.le (.inr (by simp))) hbF) (Sl.mono (hS.le (.inr (by simp))) hkz) (Sl.mono (hS.le (.inr (by simp))) hmz))) ?_
    clear hF hS; rintro _ _ _ a w ⟨_, _, rfl, rfl, ⟨kT, mT, zT, rfl, hkT, hmT, rfl, rfl⟩⟩ hF hS
    refine ⟨⟨iQ, iQ, .inr (hS.keep (sQ.n) zQ), .inr (hS.keep (sQ.n) zQ), iQ, iQ, .inr (hS.keep (sQ.n) zQ), .inr (hS.keep (sQ.n) zQ), iQ, iQ, trivial⟩, ?_⟩
    refine goW_take 12 _ rfl kQ rfl hF (hS.keep sQ zQ) (q_move rfl) ?_
    clear hF; intro a hF
    refine goW_take 13 _ rfl kQ rfl hF (hS.keep sQ zQ) (q_extract rfl rfl) ?_
    clear hF; intro a hF
    refine goW_take 14 _ rfl kQ rfl hF (hS.keep sQ zQ) (q_extract rfl rfl) ?_
    clear hF; intro a hF
    refine gQ 16 rfl rfl hF hS rfl (ef_storeW ty38 0 rfl rfl rfl rfl bQ (oc_cons (sl_one' hkT) (oc_cons (sl_one' hmT) oc_nil)) bQ) ?_
    clear hF hS; rintro _ _ _ a w ⟨rfl, rfl, rfl⟩ hF hS
    refine ⟨⟨.inr (hS.keep sQ zQ), iQ, iQ, iQ, iQ, iQ, iQ, iQ, iQ, iQ, iQ, iQ, iQ, trivial⟩, ?_⟩
    refine goW_take 17 _ rfl kQ rfl hF (hS.keep sQ zQ) (q_assign rfl) ?_
    clear hF; intro a hF
    exact goW_done kQ (j4_mk kT mT zT b_14_15 ((And.intro hkT (And.intro hmT trivial))) (hF.sub (L' := [(3, _), (9, _), (10, _), (11, _), (12, _), (13, _), (15, _), (17, _), (19, _), (20, _)]) ⟨rfl, rfl, rfl, rfl, rfl, rfl, rfl, rfl, rfl, rfl, trivial⟩) hS)
  rintro a w ⟨kT, mT, zT, b_14_15, ⟨hkT, hmT, -⟩, hF, hS⟩
  (try dsimp only at hF); (try dsimp only at hS)
  rw [ht1] at hkT hmT hF
  replace hkT : Sl (encA 16) zT kT ks := hkT
  replace hmT : Sl encI zT mT q2 := hmT
  refine hK17 _ _ ?_
  clear hK17
  refine wp_seq_k ?_; intro K18 hK18
  refine wp_seq_k ?_; intro K19 hK19
  refine reg hF hS (sq rfl (q_move rfl) <|
    sq rfl (q_nf (q_nei rfl rfl) (rfl)) <|
    sq_end) ?_
  clear hF hS; intro a w hF hS
  refine hK19 _ _ ?_
  clear hK19
  refine wp_if hF rfl (fun h => absurd h (by simp)) (fun _ => ?_)
  refine wp_skip ?_
  refine hK18 _ _ ?_
  clear hK18
  refine regl ?_
  refine wpl_sq hF hS (sq rfl (q_ld_blkW ty38 0 rfl rfl bQ rfl) <|
    sq_end) ?_
  clear hF hS; intro a w hF hS
  refine wpl_ef hF hS rfl (ef_storeW ty38 1 rfl rfl rfl rfl bQ (oc_cons (sl_one' hkT) (oc_cons (sl_one' hmT) oc_nil)) bQ) ?_
  clear hF hS; rintro _ _ _ a w ⟨rfl, rfl, rfl⟩ hF hS
  replace hS : St _ [_, _, _, _, _, _, _] [_, _, _] _ := hS
  refine wpList_nil ?_
  refine hK13 _ _ ?_
  clear hK13
  refine reg hF hS (sq rfl (q_move rfl) <|
    sq rfl (q_addi rfl rfl (by omega)) <|
    sq rfl (q_assign rfl) <|
    sq_end) ?_
  clear hF hS; intro a w hF hS
  replace hS := hS.keep (sQ.n.k) (sQ.n)
  refine ⟨(zT, kT, mT, q2, i + 1), ?_, ?_, hF.sub ⟨rfl, rfl, rfl, rfl, rfl, rfl, rfl, rfl, trivial⟩, ?_⟩
  ·(try dsimp only); omega
  ·exact ⟨⟨hkT, hmT⟩, by rw [hq2, show (i + 1).toNat = i.toNat + 1 by omega], by omega, by omega⟩
  ·exact hS
 ·obtain rfl : i = AA.length := by omega
  rw [Int.toNat_natCast, hN6] at hq9
  rw [← hq9] at hN4 hN5 hN7 hN9 hFF
  have hfu := Hu.fit_use hN4
  obtain ⟨ND, hND⟩ : ∃ l, Hu.ndL xs xb ks q = l := ⟨_, rfl⟩
  rw [hND] at hN7 hN9
  subst hFF
  refine wp_exit ?_
  refine hK9 _ _ ?_
  clear hK9
  refine wp_seq_k ?_; intro K20 hK20
  revert hS; revert hF; apply regJ (J := J2 (α0 := Value) (α1 := PH) 230 _ _ _ _ _) #[false, false, false, false, false, false, false, false, false] 9 mixed rfl rfl
  ·intro w hF hS
   refine goW_take 0 _ rfl kQ rfl hF (hS.keep sQ (sQ.n)) (q_ld_blkW ty26 0 rfl rfl bQ rfl) ?_
   clear hF; intro a hF
   refine goW_take 2 _ rfl kQ rfl hF (hS.keep sQ (zQ.k)) (q_ld_blkW ty38 0 rfl rfl bQ rfl) ?_
   clear hF; intro a hF
   refine gQ 1 rfl rfl hF hS rfl (ef_qt (q_call fn17 rfl (fun w hS => own_ct _ _ _ _ _ w (sl_one' hnF) (Sl.mono (hS.le (.inr (by simp))) hsF) (Sl.mono (hS.le (.inr (by simp))) hbF)) (fun _ _ _ h => h))) ?_
   clear hF hS; rintro _ _ _ a w ⟨rfl, rfl, rfl⟩ hF hS
   refine ⟨⟨.inr (hS.keep sQ (zQ.k)), iQ, trivial⟩, ?_⟩
   refine gQ 3 rfl rfl hF hS rfl (ef_call fn34 rfl (fun w hS => needed_ct _ _ _ _ _ _ _ _ _ (by omega) w (sl_one' hnF) (Sl.mono (hS.le (.inr (by simp))) hsF) (Sl.mono (hS.le (.inr (by simp))) hbF) (Sl.mono (hS.le (.inr (by simp))) hkz) (Sl.mono (hS.le (.inr (by simp))) hmz))) ?_
   clear hF hS; rintro _ _ _ a w ⟨_, _, rfl, rfl, ⟨vE, zE, hzE, rfl, rfl, rfl⟩⟩ hF hS
   refine ⟨⟨iQ, iQ, trivial⟩, ?_⟩
   refine goW_take 4 _ rfl kQ rfl hF (hS.keep sQ zQ) (q_move rfl) ?_
   clear hF; intro a hF
   refine goW_take 5 _ rfl kQ rfl hF (hS.keep sQ zQ) (q_extract rfl rfl) ?_
   clear hF; intro a hF
   refine goW_take 6 _ rfl kQ rfl hF (hS.keep sQ zQ) (q_extract rfl rfl) ?_
   clear hF; intro a hF
   refine goW_take 7 _ rfl kQ rfl hF (hS.keep sQ zQ) (q_assign rfl) ?_
   clear hF; intro a hF
   refine goW_take 8 _ rfl kQ rfl hF (hS.keep sQ zQ) (q_assign rfl) ?_
   clear hF; intro a hF
   exact goW_done kQ (j2_mk vE zE ((And.intro hzE trivial)) (hF.sub (L' := [(3, _), (9, _), (10, _), (12, _), (13, _), (15, _), (21, _), (22, _)]) ⟨rfl, rfl, rfl, rfl, rfl, rfl, rfl, rfl, trivial⟩) hS)
  rintro a w ⟨vE, zE, ⟨hzE, -⟩, hF, hS⟩
  (try dsimp only at hF); (try dsimp only at hS)
  rw [Hu.kE_t hN4] at hF
  rw [hND] at hzE
  refine hK20 _ _ ?_
  clear hK20
  refine wp_seq_k ?_; intro K21 hK21
  refine wp_seq_k ?_; intro K22 hK22
  refine reg hF hS (sq rfl (q_move rfl) <|
    sq rfl (q_nf (q_nei rfl rfl) (rfl)) <|
    sq rfl (q_move rfl) <|
    sq_go 111 rfl rfl rfl (q_move rfl) <|
    sq_go 111 rfl rfl rfl (q_len_sl ty22 hzE rfl) <|
    sq_go 111 rfl rfl rfl (q_move rfl) <|
    sq_go 111 rfl rfl rfl (q_len_sl ty22 haR rfl) <|
    sq_go 111 rfl rfl rfl (q_nf (q_nei rfl rfl) (by omega)) <|
    sq rfl (q_pick_f rfl rfl) <|
    sq_end) ?_
  clear hF hS; intro a w hF hS
  refine hK22 _ _ ?_
  clear hK22
  refine wp_if hF rfl (fun h => absurd h (by simp)) (fun _ => ?_)
  refine wp_skip ?_
  refine hK21 _ _ ?_
  clear hK21
  refine wp_seq_k ?_; intro K23 hK23
  refine wp_seq_k ?_; intro K24 hK24
  refine reg hF hS (sq rfl (q_assign rfl) <|
    sq_end) ?_
  clear hF hS; intro a w hF hS
  refine hK24 _ _ ?_
  clear hK24
  refine wp_block ?_
  obtain ⟨hs0, hhs0, hS⟩ : ∃ h, h = _ ∧ St _ _ h _ := ⟨_, rfl, hS⟩
  refine wp_loopx (γ := Int) (0) (fun (e : Int) => [(23, vi e)]) [(3, _), (9, _), (10, _), (12, _), (13, _), (15, _), (21, _)] (fun (e : Int) => hs0) (fun (e : Int) => 0 ≤ e ∧ e ≤ ND.length) (fun (e : Int) => (ND.length - e).toNat) (hF.sub ⟨rfl, rfl, rfl, rfl, rfl, rfl, rfl, rfl, trivial⟩) (by subst hhs0; exact hS) (by exact ⟨Int.le_refl _, by omega⟩) ?_
  clear hF hS; rintro e a w hfact hF hS
  subst hhs0; (try dsimp only at hfact); (try dsimp only at hF); (try dsimp only at hS)
  obtain ⟨he0, he1⟩ := hfact
  replace hS : St _ [_, _, _, _, _, _, _] [_, _] _ := hS
  refine wp_seq_k ?_; intro K25 hK25
  refine wp_seq_k ?_; intro K26 hK26
  refine reg hF hS (sq rfl (q_move rfl) <|
    sq rfl (q_move rfl) <|
    sq rfl (q_len_sl ty22 hzE rfl) <|
    sq rfl (q_lti rfl rfl) <|
    sq_end) ?_
  clear hF hS; intro a w hF hS
  refine hK26 _ _ ?_
  clear hK26
  refine wp_ifd hF rfl (fun hc6 => ?_) (fun hc6 => ?_)
  ·obtain ⟨k, hk1, hk2, hk3, hk4⟩ := hN9 e.toNat (by omega)
   have hky := hk16 (((k : Nat) : Int)).toNat (by omega)
   refine wp_skip ?_
   refine hK25 _ _ ?_
   clear hK25
   refine wp_seq_k ?_; intro K27 hK27
   refine wp_block ?_
   refine wp_seq_k ?_; intro K28 hK28
   refine regd mixed kQ hF hS (sq rfl (q_ld_blkW ty26 1 rfl rfl bQ rfl) <|
     sq rfl (q_move rfl) <|
     sq rfl (q_move rfl) <|
     sq rfl (q_idx_sl ty22 ty3 hzE rfl rfl (by omega)) <|
     sq rfl (q_ld_I ty3 hzE (.inr (by simp)) rfl rfl (by omega)) <|
     sq rfl (q_call fn45 rfl (fun w hS => rix_ct _ _ _ _ _ _ w (sl_one' hnF) (Sl.mono (hS.le (.inr (by simp))) hsF) (Sl.mono (hS.le (.inr (by simp))) hbF)) (fun _ _ _ h => h)) <|
     sq rfl (q_assign rfl) <|
     sq_end) ?_
   clear hF hS; intro a w hF hS
   rw [hk2] at hF
   refine hK28 _ _ ?_
   clear hK28
   refine wp_seq_k ?_; intro K29 hK29
   refine wp_seq_k ?_; intro K30 hK30
   refine reg hF hS (sq rfl (q_move rfl) <|
     sq rfl (q_df (q_lti rfl rfl) (by omega)) <|
     sq_end) ?_
   clear hF hS; intro a w hF hS
   refine hK30 _ _ ?_
   clear hK30
   refine wp_if hF rfl (fun h => absurd h (by simp)) (fun _ => ?_)
   refine wp_skip ?_
   refine hK29 _ _ ?_
   clear hK29
   refine wp_seq_k ?_; intro K31 hK31
   refine reg hF hS (sq rfl (q_assign rfl) <|
     sq_end) ?_
   clear hF hS; intro a w hF hS
   refine hK31 _ _ ?_
   clear hK31
   refine wp_seq_k ?_; intro K32 hK32
   refine wp_seq_k ?_; intro K33 hK33
   refine reg hF hS (sq rfl (q_assign rfl) <|
     sq_end) ?_
   clear hF hS; intro a w hF hS
   refine hK33 _ _ ?_
   clear hK33
   refine wp_block ?_
   obtain ⟨hs0, hhs0, hS⟩ : ∃ h, h = _ ∧ St _ _ h _ := ⟨_, rfl, hS⟩
   refine wp_loopx (γ := Int) (0) (fun (j : Int) => [(25, .bool (Hu.nmd xs ks AA k j.toNat)), (26, vi j)]) [(3, _), (9, _), (10, _), (12, _), (13, _), (15, _), (21, _), (23, _), (24, _)] (fun (j : Int) => hs0) (fun (j : Int) => 0 ≤ j ∧ j ≤ AA.length) (fun (j : Int) => (AA.length - j).toNat) (hF.sub ⟨(by show some _ = some _; rw [show (0 : Int).toNat = 0 from rfl, Hu.nmd_0]), rfl, rfl, rfl, rfl, rfl, rfl, rfl, rfl, rfl, rfl, trivial⟩) (by subst hhs0; exact hS) (by exact ⟨Int.le_refl _, by omega⟩) ?_
   clear hF hS; rintro j a w hfact hF hS
   subst hhs0; (try dsimp only at hfact); (try dsimp only at hF); (try dsimp only at hS)
   obtain ⟨hj0, hj1⟩ := hfact
   replace hS : St _ [_, _, _, _, _, _, _] [_, _] _ := hS
   refine wp_seq_k ?_; intro K34 hK34
   refine wp_seq_k ?_; intro K35 hK35
   refine reg hF hS (sq rfl (q_move rfl) <|
     sq rfl (q_move rfl) <|
     sq rfl (q_len_sl ty22 haR rfl) <|
     sq rfl (q_lti rfl rfl) <|
     sq_end) ?_
   clear hF hS; intro a w hF hS
   refine hK35 _ _ ?_
   clear hK35
   refine wp_ifd hF rfl (fun hc8 => ?_) (fun hc8 => ?_)
   ·obtain ⟨c, hc1x, hc2x, _⟩ := hN8 j.toNat (by omega)
    have hkx := hk16 (Gu.ixF (fun y => decide (AA.getD j.toNat 0 = y)) xs).toNat (by omega)
    refine wp_skip ?_
    refine hK34 _ _ ?_
    clear hK34
    refine wp_seq_k ?_; intro K36 hK36
    refine wp_block ?_
    refine regq mixed kQ hS ?_
    refine wpq_seg hF (sq rfl (q_move rfl) <|
      sq rfl (q_move rfl) <|
      sq_end) ?_
    clear hF; intro a hF
    refine wpq_or 1 139 14 hF rfl rfl rfl rfl rfl (fun hg => have hg := hg; sq_go 139 rfl rfl rfl (q_move rfl) <|
      sq_go 139 rfl rfl rfl (q_ld_blkW ty26 1 rfl rfl bQ rfl) <|
      sq_go 139 rfl rfl rfl (q_move rfl) <|
      sq_go 139 rfl rfl rfl (q_move rfl) <|
      sq_go 139 rfl rfl rfl (q_idx_sl ty22 ty3 haR rfl rfl (by omega)) <|
      sq_go 139 rfl rfl rfl (q_ld_I ty3 haR (.inr (by simp)) rfl rfl (by omega)) <|
      sq_go 139 rfl rfl rfl (q_call fn45 rfl (fun w hS => rix_ct _ _ _ _ _ _ w (sl_one' hnF) (Sl.mono (hS.le (.inr (by simp))) hsF) (Sl.mono (hS.le (.inr (by simp))) hbF)) (fun _ _ _ h => h)) <|
      sq_go 139 rfl rfl rfl (q_idx_sl ty28 ty66 hzY rfl rfl (by omega)) <|
      sq_go 139 rfl rfl rfl (q_ld_AB ty66 hzY (.inr (by simp)) rfl rfl (by decide) (by omega)) <|
      sq_go 139 rfl rfl rfl (q_move rfl) <|
      sq_go 139 rfl rfl rfl (q_move rfl) <|
      sq_go 139 rfl rfl rfl (q_idx_sl ty28 ty66 hzY rfl rfl (by omega)) <|
      sq_go 139 rfl rfl rfl (q_ld_AB ty66 hzY (.inr (by simp)) rfl rfl (by decide) (by omega)) <|
      sq_go 139 rfl rfl rfl (q_eqAB ty66 ty5 kQ rfl rfl bQ bQ) <|
      sq_end) rfl rfl ?_
    clear hF; intro a hF
    refine wpq_seg hF (sq rfl (q_assign rfl) <|
      sq_end) ?_
    clear hF; intro a hF
    refine wpq_nil ?_
    clear hS; intro w hS
    refine hK36 _ _ ?_
    clear hK36
    refine reg hF hS (sq rfl (q_move rfl) <|
      sq rfl (q_addi rfl rfl (by omega)) <|
      sq rfl (q_assign rfl) <|
      sq_end) ?_
    clear hF hS; intro a w hF hS
    refine ⟨(j + 1), ?_, ?_, hF.sub ⟨(by show some _ = some _; rw [show (j + 1).toNat = j.toNat + 1 by omega, Hu.nmd_succ (by omega), Int.toNat_natCast]), rfl, rfl, rfl, rfl, rfl, rfl, rfl, rfl, rfl, rfl, trivial⟩, ?_⟩
    ·(try dsimp only); omega
    ·exact ⟨by omega, by omega⟩
    ·exact hS
   ·obtain rfl : j = AA.length := by omega
    rw [Int.toNat_natCast, Hu.nmd_all hk4] at hF
    refine wp_exit ?_
    refine hK32 _ _ ?_
    clear hK32
    refine wp_seq_k ?_; intro K37 hK37
    refine reg hF hS (sq rfl (q_assign rfl) <|
      sq_end) ?_
    clear hF hS; intro a w hF hS
    replace hS := hS.nilRow 4 1
    refine hK37 _ _ ?_
    clear hK37
    refine wp_seq_k ?_; intro K38 hK38
    refine reg hF hS (sq rfl (q_assign rfl) <|
      sq_end) ?_
    clear hF hS; intro a w hF hS
    replace hS := hS.nilRow 4 1
    refine hK38 _ _ ?_
    clear hK38
    refine wp_seq_k ?_; intro K39 hK39
    refine wp_seq_k ?_; intro K40 hK40
    refine reg hF hS (sq rfl (q_assign rfl) <|
      sq_end) ?_
    clear hF hS; intro a w hF hS
    refine hK40 _ _ ?_
    clear hK40
    refine wp_block ?_
    obtain ⟨hs0, hhs0, hS⟩ : ∃ h, h = _ ∧ St _ _ h _ := ⟨_, rfl, hS⟩
    refine wp_loopx (γ := Value × Value × Int) ((Value.slice none 0 0), (Value.slice none 0 0), 0) (fun (gg : Value × Value × Int) => match gg with | (u1, u2, j) => [(27, u1), (28, u2), (29, vi j)]) [(3, _), (9, _), (10, _), (12, _), (13, _), (15, _), (21, _), (23, _), (24, _), (25, _)] (fun (gg : Value × Value × Int) => match gg with | (u1, u2, j) => ((hs0.set 1 (.row u1 4 1 j.toNat ((Hu.onL q rs ks j.toNat).map vt))).set 0 (.row u2 4 1 j.toNat ((Hu.twL xb q rs ks k j.toNat).map vt)))) (fun (gg : Value × Value × Int) => match gg with | (u1, u2, j) => 0 ≤ j ∧ j ≤ xs.length) (fun (gg : Value × Value × Int) => match gg with | (u1, u2, j) => (xs.length - j).toNat) (hF.sub ⟨rfl, rfl, rfl, rfl, rfl, rfl, rfl, rfl, rfl, rfl, rfl, rfl, rfl, trivial⟩) (by subst hhs0; exact hS) (by exact ⟨Int.le_refl _, by omega⟩) ?_
    clear hF hS; rintro ⟨u1, u2, j⟩ a w hfact hF hS
    subst hhs0; (try dsimp only at hfact); (try dsimp only at hF); (try dsimp only at hS)
    obtain ⟨hj0, hj1⟩ := hfact
    replace hS : St _ [_, _, _, _, _, _, _] [_, _, _, _] _ := hS
    refine wp_seq_k ?_; intro K41 hK41
    refine wp_seq_k ?_; intro K42 hK42
    refine reg hF hS (sq rfl (q_move rfl) <|
      sq rfl (q_fieldAddr ty26 rfl rfl (s' := 0) kQ) <|
      sq rfl (q_ld_blk1 ty22 3 rfl rfl rfl rfl) <|
      sq rfl (q_len_sl ty22 hsF rfl) <|
      sq rfl (q_lti rfl rfl) <|
      sq_end) ?_
    clear hF hS; intro a w hF hS
    refine hK42 _ _ ?_
    clear hK42
    refine wp_ifd hF rfl (fun hc9 => ?_) (fun hc9 => ?_)
    ·have hkj := hk16 j.toNat (by omega)
     refine wp_skip ?_
     refine hK41 _ _ ?_
     clear hK41
     refine wp_seq_k ?_; intro K43 hK43
     refine wp_block ?_
     refine wp_seq_k ?_; intro K44 hK44
     refine regl ?_
     refine wpl_sq hF hS (sq rfl (q_fieldAddr ty38 rfl rfl (s' := 0) kQ) <|
       sq rfl (q_ld_blk1 ty22 2 rfl rfl rfl rfl) <|
       sq rfl (q_move rfl) <|
       sq rfl (q_idx_sl ty22 ty3 hmz rfl rfl (by omega)) <|
       sq rfl (q_ld_I ty3 hmz (.inr (by simp)) rfl rfl (by omega)) <|
       sq rfl (q_eqi rfl rfl) <|
       sq rfl (q_move rfl) <|
       sq_end) ?_
     clear hF hS; intro a w hF hS
     refine wpl_orG (q := (decide (q.getD j.toNat 0 = 0) && decide (Gu.atN rs ((((ks.getD j.toNat []).getD 0 0).toNat : Nat) : Int) 2 = 1))) 168 17 hF hS rfl (by rfl) rfl (fun _ => sq_skip 168 rfl rfl rfl rfl <|
       sq_skip 168 rfl rfl rfl rfl <|
       sq_skip 168 rfl rfl rfl rfl <|
       sq_skip 168 rfl rfl rfl rfl <|
       sq_skip 168 rfl rfl rfl rfl <|
       sq_skip 168 rfl rfl rfl rfl <|
       sq_skip 168 rfl rfl rfl rfl <|
       sq_skipu 175 rfl rfl rfl <|
       sq_skipu 175 rfl rfl rfl <|
       sq_skipu 175 rfl rfl rfl <|
       sq_skipu 175 rfl rfl rfl <|
       sq_skipu 175 rfl rfl rfl <|
       sq_skipu 175 rfl rfl rfl <|
       sq_skipu 175 rfl rfl rfl <|
       sq_skipu 175 rfl rfl rfl <|
       sq_skipu 175 rfl rfl rfl <|
       sq_skip 168 rfl rfl rfl rfl <|
       sq_end) rfl (fun hg a w hF hS KG => ?_) ?_
     ·have hg := (by first | exact of_decide_eq_false hg | exact hg)
      refine wpl_sq hF hS (sq_go 168 rfl rfl rfl (q_fieldAddr ty38 rfl rfl (s' := 0) kQ) <|
        sq_go 168 rfl rfl rfl (q_ld_blk1 ty22 2 rfl rfl rfl rfl) <|
        sq_go 168 rfl rfl rfl (q_move rfl) <|
        sq_go 168 rfl rfl rfl (q_idx_sl ty22 ty3 hmz rfl rfl (by omega)) <|
        sq_go 168 rfl rfl rfl (q_ld_I ty3 hmz (.inr (by simp)) rfl rfl (by omega)) <|
        sq_go 168 rfl rfl rfl (q_eqi rfl rfl) <|
        sq_go 168 rfl rfl rfl (q_move rfl) <|
        sq_end) ?_
      clear hF hS; intro a w hF hS
      refine wpl_andP 13 175 9 6 168 hF hS rfl rfl rfl rfl rfl rfl rfl (fun hg2 => have hg2 := (by first | exact of_decide_eq_true hg2 | exact hg2); sq_go 175 rfl rfl rfl (q_move rfl) <|
        sq_go 175 rfl rfl rfl (q_move rfl) <|
        sq_go 175 rfl rfl rfl (q_move rfl) <|
        sq_go 175 rfl rfl rfl (q_idx_sl ty28 ty66 hzY rfl rfl (by omega)) <|
        sq_go 175 rfl rfl rfl (q_idx_AB ty66 ty5 hzY rfl rfl (by omega) (by omega)) <|
        sq_go 175 rfl rfl rfl (q_ld_AB1 ty5 hzY (.inr (by simp)) rfl rfl (by omega) (by omega)) <|
        sq_go 175 rfl rfl rfl (q_cv_bi ty5 ty3 rfl) <|
        sq_go 175 rfl rfl rfl (q_call fn21 rfl (fun w hS => at_ct _ _ _ _ (by omega) w (Sl.mono (hS.le zin0) ho)) (fun _ _ _ h => h)) <|
        sq_go 175 rfl rfl rfl (q_eqi rfl rfl) <|
        sq_end) rfl rfl ?_
      clear hF hS; intro a w hF hS
      refine wpl_sq hF hS (sq rfl (q_pick_f rfl rfl) <|
        sq_end) ?_
      clear hF hS; intro a w hF hS
      exact KG _ _ (hF.under 8 rfl rfl) hS
     clear hF hS; intro a w hF hS
     refine wpl_sq hF hS (sq rfl (q_assign rfl) <|
       sq_end) ?_
     clear hF hS; intro a w hF hS
     refine wpList_nil ?_
     refine hK44 _ _ ?_
     clear hK44
     refine wp_seq_k ?_; intro K45 hK45
     refine regl ?_
     refine wpl_sq hF hS (sq rfl (q_move rfl) <|
       sq rfl (q_move rfl) <|
       sq_end) ?_
     clear hF hS; intro a w hF hS
     refine wpl_ef hF hS rfl (ef_bsliceA ty24 ty4 rfl rfl oQ (by decide) rfl rfl) ?_
     clear hF hS; rintro v10 _ _ a w ⟨rfl, rfl⟩ hF hS
     replace hS : St _ [_, _, _, _, _, _, _] [_, _, _, _, _] _ := hS
     refine wpl_ef hF hS rfl (ef_append ty24 ty4 2 rfl rfl rfl (src_row ty24 (k := 0) rfl oQ) bQ rfl (by decide)) ?_
     clear hF hS; rintro v12 _ _ a w ⟨rfl, rfl⟩ hF hS
     replace hS : St _ [_, _, _, _, _, _, _] [_, _, _, _, _] _ := hS
     refine wpl_sq hF hS (sq rfl (q_assign rfl) <|
       sq_end) ?_
     clear hF hS; intro a w hF hS
     refine wpList_nil ?_
     refine hK45 _ _ ?_
     clear hK45
     rcases Bool.eq_false_or_eq_true (xb.getD j.toNat false) with hsp | hsp
     ·revert hS; revert hF; apply regJ (J := J2 (α0 := Value) (α1 := Value) 230 _ _ _ _ _) #[false, false, false, false, false, false, false, false, false, false, false, false, false, false, false, false, false, false, false, false, false, false] 22 mixed rfl rfl
      ·intro w hF hS
       refine goW_take 0 _ rfl kQ rfl hF (hS.keep sQ zQ) (q_move rfl) ?_
       clear hF; intro a hF
       refine goW_take 1 _ rfl kQ rfl hF (hS.keep sQ zQ) (q_move rfl) ?_
       clear hF; intro a hF
       refine goW_take 2 _ rfl kQ rfl hF (hS.keep sQ zQ) (q_fieldAddr ty26 rfl rfl (s' := 0) kQ) ?_
       clear hF; intro a hF
       refine goW_take 3 _ rfl kQ rfl hF (hS.keep sQ (sQ.n.n.n.n)) (q_ld_blk1 ty24 0 rfl rfl rfl rfl) ?_
       clear hF; intro a hF
       refine goW_take 4 _ rfl kQ rfl hF (hS.keep sQ zQ) (q_move rfl) ?_
       clear hF; intro a hF
       refine goW_take 5 _ rfl kQ rfl hF (hS.keep sQ zQ) (q_idx_sl ty24 ty4 hbF rfl rfl (by omega)) ?_
       clear hF; intro a hF
       refine goW_take 6 _ rfl kQ rfl hF (hS.keep sQ zQ) (q_bt (q_ld_T ty4 hbF (.inr (by simp)) rfl rfl (by omega)) (hsp)) ?_
       clear hF; intro a hF
       refine goW_take 7 _ rfl kQ rfl hF (hS.keep sQ zQ) (q_move rfl) ?_
       clear hF; intro a hF
       refine goW_takeg 8 _ rfl (wanted_go 198 rfl rfl) kQ rfl hF (hS.keep sQ zQ) (q_move rfl) ?_
       clear hF; intro a hF
       refine goW_takeg 9 _ rfl (wanted_go 198 rfl rfl) kQ rfl hF (hS.keep sQ zQ) (q_move rfl) ?_
       clear hF; intro a hF
       refine goW_takeg 10 _ rfl (wanted_go 198 rfl rfl) kQ rfl hF (hS.keep sQ zQ) (q_idx_sl ty28 ty66 hzY rfl rfl (by omega)) ?_
       clear hF; intro a hF
       refine goW_takeg 11 _ rfl (wanted_go 198 rfl rfl) kQ rfl hF (hS.keep sQ zQ) (q_ld_AB ty66 hzY (.inr (by simp)) rfl rfl (by decide) (by omega)) ?_
       clear hF; intro a hF
       refine goW_takeg 12 _ rfl (wanted_go 198 rfl rfl) kQ rfl hF (hS.keep sQ zQ) (q_move rfl) ?_
       clear hF; intro a hF
       refine goW_takeg 13 _ rfl (wanted_go 198 rfl rfl) kQ rfl hF (hS.keep sQ zQ) (q_move rfl) ?_
       clear hF; intro a hF
       refine goW_takeg 14 _ rfl (wanted_go 198 rfl rfl) kQ rfl hF (hS.keep sQ zQ) (q_idx_sl ty28 ty66 hzY rfl rfl (by omega)) ?_
       clear hF; intro a hF
       refine goW_takeg 15 _ rfl (wanted_go 198 rfl rfl) kQ rfl hF (hS.keep sQ zQ) (q_ld_AB ty66 hzY (.inr (by simp)) rfl rfl (by decide) (by omega)) ?_
       clear hF; intro a hF
       refine goW_takeg 16 _ rfl (wanted_go 198 rfl rfl) kQ rfl hF (hS.keep sQ zQ) (q_eqAB ty66 ty5 kQ rfl rfl bQ bQ) ?_
       clear hF; intro a hF
       refine goW_take 17 _ rfl kQ rfl hF (hS.keep sQ zQ) (q_pick_t rfl rfl) ?_
       clear hF; intro a hF
       refine goW_take 18 _ rfl kQ rfl hF (hS.keep sQ zQ) (q_net ty4 rfl rfl) ?_
       clear hF; intro a hF
       refine gQ 19 rfl rfl hF hS rfl (ef_bsliceA ty24 ty4 rfl rfl oQ (by decide) rfl rfl) ?_
       clear hF hS; rintro v_39_19 _ _ a w ⟨rfl, rfl⟩ hF hS
       refine ⟨⟨iQ, iQ, .inr (hS.keep sQ zQ), .inr (hS.keep sQ zQ), .inr (hS.keep sQ zQ), .inr (hS.keep sQ zQ), .inr (hS.keep sQ zQ), .inr (hS.keep sQ zQ), .inr (hS.keep sQ zQ), .inr (hS.keep sQ zQ), .inr (hS.keep sQ zQ), .inr (hS.keep sQ zQ), .inr (hS.keep sQ zQ), .inr (hS.keep sQ zQ), .inr (hS.keep sQ zQ), .inr (hS.keep sQ (sQ.n.n.n.n.n)), .inr (hS.keep sQ zQ), iQ, .inr (hS.keep sQ zQ), trivial⟩, ?_⟩
       refine gQ 20 rfl rfl hF hS rfl (ef_append ty24 ty4 2 rfl rfl rfl (src_row ty24 (k := 0) rfl oQ) bQ rfl (by decide)) ?_
       clear hF hS; rintro v_39_20 _ _ a w ⟨rfl, rfl⟩ hF hS
       refine ⟨⟨iQ, iQ, .inr (hS.keep sQ zQ), .inr (hS.keep sQ zQ), .inr (hS.keep sQ zQ), .inr (hS.keep sQ zQ), .inr (hS.keep sQ zQ), .inr (hS.keep sQ zQ), .inr (hS.keep sQ zQ), .inr (hS.keep sQ zQ), .inr (hS.keep sQ zQ), iQ, iQ, .inr (hS.keep sQ zQ), .inr (hS.keep sQ zQ), .inr (hS.keep sQ (sQ.n.n.n.n.n)), .inr (hS.keep sQ zQ), iQ, iQ, trivial⟩, ?_⟩
       refine goW_take 21 _ rfl kQ rfl hF (hS.keep sQ zQ) (q_assign rfl) ?_
       clear hF; intro a hF
       exact goW_done kQ (j2_mk v_39_19 v_39_20 (trivial) (hF.sub (L' := [(3, _), (9, _), (10, _), (12, _), (13, _), (15, _), (21, _), (23, _), (24, _), (25, _), (27, _), (28, _), (29, _)]) ⟨rfl, rfl, rfl, rfl, rfl, rfl, rfl, rfl, rfl, rfl, rfl, rfl, rfl, trivial⟩) hS)
      rintro a w ⟨v_39_19, v_39_20, -, hF, hS⟩
      (try dsimp only at hF); (try dsimp only at hS)
      refine hK43 _ _ ?_
      clear hK43
      refine reg hF hS (sq rfl (q_move rfl) <|
        sq rfl (q_addi rfl rfl (by omega)) <|
        sq rfl (q_assign rfl) <|
        sq_end) ?_
      clear hF hS; intro a w hF hS
      replace hS := hS.keep sQ (sQ.n.n)
      refine ⟨(v12, v_39_20, j + 1), ?_, ?_, hF.sub ⟨rfl, rfl, rfl, rfl, rfl, rfl, rfl, rfl, rfl, rfl, rfl, rfl, rfl, trivial⟩, ?_⟩
      ·(try dsimp only); omega
      ·exact ⟨by omega, by omega⟩
      ·(try dsimp only); rw [show (j + 1).toNat = j.toNat + 1 by omega, Hu.onL_succ, Hu.twL_succ, List.map_append, List.map_append, Hu.two_t hsp]; exact hS
     ·revert hS; revert hF; apply regJ (J := J2 (α0 := Value) (α1 := Value) 230 _ _ _ _ _) #[false, false, false, false, false, false, false, false, false, false, false, false, false, false, false, false, false, false, false, false, false, false] 22 mixed rfl rfl
      ·intro w hF hS
       refine goW_take 0 _ rfl kQ rfl hF (hS.keep sQ zQ) (q_move rfl) ?_
       clear hF; intro a hF
       refine goW_take 1 _ rfl kQ rfl hF (hS.keep sQ zQ) (q_move rfl) ?_
       clear hF; intro a hF
       refine goW_take 2 _ rfl kQ rfl hF (hS.keep sQ zQ) (q_fieldAddr ty26 rfl rfl (s' := 0) kQ) ?_
       clear hF; intro a hF
       refine goW_take 3 _ rfl kQ rfl hF (hS.keep sQ (sQ.n.n.n.n)) (q_ld_blk1 ty24 0 rfl rfl rfl rfl) ?_
       clear hF; intro a hF
       refine goW_take 4 _ rfl kQ rfl hF (hS.keep sQ zQ) (q_move rfl) ?_
       clear hF; intro a hF
       refine goW_take 5 _ rfl kQ rfl hF (hS.keep sQ zQ) (q_idx_sl ty24 ty4 hbF rfl rfl (by omega)) ?_
       clear hF; intro a hF
       refine goW_take 6 _ rfl kQ rfl hF (hS.keep sQ zQ) (q_bf (q_ld_T ty4 hbF (.inr (by simp)) rfl rfl (by omega)) (hsp)) ?_
       clear hF; intro a hF
       refine goW_take 7 _ rfl kQ rfl hF (hS.keep sQ zQ) (q_move rfl) ?_
       clear hF; intro a hF
       refine goW_skip 8 #[true, true, true, true, true, true, true, true, true, false, false, false, false, false, false, false, false, false, false, false, false, false] rfl (wanted_no 198 rfl rfl rfl) kQ rfl hF hS.k0 ?_
       clear hF; intro a hF
       refine goW_skip 9 #[true, true, true, true, true, true, true, true, true, true, false, false, false, false, false, false, false, false, false, false, false, false] rfl (wanted_no 198 rfl rfl rfl) kQ rfl hF hS.k0 ?_
       clear hF; intro a hF
       refine goW_skip 10 #[true, true, true, true, true, true, true, true, true, true, true, false, false, false, false, false, false, false, false, false, false, false] rfl (wanted_no 198 rfl rfl rfl) kQ rfl hF hS.k0 ?_
       clear hF; intro a hF
       refine goW_skip 11 #[true, true, true, true, true, true, true, true, true, true, true, true, false, false, false, false, false, false, false, false, false, false] rfl (wanted_no 198 rfl rfl rfl) kQ rfl hF hS.k0 ?_
       clear hF; intro a hF
       refine goW_skip 12 #[true, true, true, true, true, true, true, true, true, true, true, true, true, false, false, false, false, false, false, false, false, false] rfl (wanted_no 198 rfl rfl rfl) kQ rfl hF hS.k0 ?_
       clear hF; intro a hF
       refine goW_skip 13 #[true, true, true, true, true, true, true, true, true, true, true, true, true, true, false, false, false, false, false, false, false, false] rfl (wanted_no 198 rfl rfl rfl) kQ rfl hF hS.k0 ?_
       clear hF; intro a hF
       refine goW_skip 14 #[true, true, true, true, true, true, true, true, true, true, true, true, true, true, true, false, false, false, false, false, false, false] rfl (wanted_no 198 rfl rfl rfl) kQ rfl hF hS.k0 ?_
       clear hF; intro a hF
       refine goW_skip 15 #[true, true, true, true, true, true, true, true, true, true, true, true, true, true, true, true, false, false, false, false, false, false] rfl (wanted_no 198 rfl rfl rfl) kQ rfl hF hS.k0 ?_
       clear hF; intro a hF
       refine goW_skip 16 #[true, true, true, true, true, true, true, true, true, true, true, true, true, true, true, true, true, false, false, false, false, false] rfl (wanted_no 198 rfl rfl rfl) kQ rfl hF hS.k0 ?_
       clear hF; intro a hF
       refine goW_take 17 _ rfl kQ rfl hF (hS.keep sQ zQ) (q_pick_f rfl rfl) ?_
       clear hF; intro a hF
       refine goW_take 18 _ rfl kQ rfl hF (hS.keep sQ zQ) (q_net ty4 rfl rfl) ?_
       clear hF; intro a hF
       refine gQ 19 rfl rfl hF hS rfl (ef_bsliceA ty24 ty4 rfl rfl oQ (by decide) rfl rfl) ?_
       clear hF hS; rintro v_39_19 _ _ a w ⟨rfl, rfl⟩ hF hS
       refine ⟨⟨iQ, iQ, .inr hS.k0, .inr hS.k0, .inr hS.k0, .inr hS.k0, .inr hS.k0, .inr hS.k0, .inr hS.k0, .inr hS.k0, .inr hS.k0, .inr (hS.keep sQ zQ), .inr (hS.keep sQ zQ), .inr (hS.keep sQ zQ), .inr (hS.keep sQ zQ), .inr (hS.keep sQ (sQ.n.n.n.n.n)), .inr (hS.keep sQ zQ), iQ, .inr (hS.keep sQ zQ), trivial⟩, ?_⟩
       refine gQ 20 rfl rfl hF hS rfl (ef_append ty24 ty4 2 rfl rfl rfl (src_row ty24 (k := 0) rfl oQ) bQ rfl (by decide)) ?_
       clear hF hS; rintro v_39_20 _ _ a w ⟨rfl, rfl⟩ hF hS
       refine ⟨⟨iQ, iQ, .inr hS.k0, .inr hS.k0, .inr hS.k0, .inr hS.k0, .inr hS.k0, .inr hS.k0, .inr hS.k0, .inr hS.k0, .inr hS.k0, iQ, iQ, .inr (hS.keep sQ zQ), .inr (hS.keep sQ zQ), .inr (hS.keep sQ (sQ.n.n.n.n.n)), .inr (hS.keep sQ zQ), iQ, iQ, trivial⟩, ?_⟩
       refine goW_take 21 _ rfl kQ rfl hF (hS.keep sQ zQ) (q_assign rfl) ?_
       clear hF; intro a hF
       exact goW_done kQ (j2_mk v_39_19 v_39_20 (trivial) (hF.sub (L' := [(3, _), (9, _), (10, _), (12, _), (13, _), (15, _), (21, _), (23, _), (24, _), (25, _), (27, _), (28, _), (29, _)]) ⟨rfl, rfl, rfl, rfl, rfl, rfl, rfl, rfl, rfl, rfl, rfl, rfl, rfl, trivial⟩) hS)
      rintro a w ⟨v_39_19, v_39_20, -, hF, hS⟩
      (try dsimp only at hF); (try dsimp only at hS)
      refine hK43 _ _ ?_
      clear hK43
      refine reg hF hS (sq rfl (q_move rfl) <|
        sq rfl (q_addi rfl rfl (by omega)) <|
        sq rfl (q_assign rfl) <|
        sq_end) ?_
      clear hF hS; intro a w hF hS
      replace hS := hS.keep sQ (sQ.n.n)
      refine ⟨(v12, v_39_20, j + 1), ?_, ?_, hF.sub ⟨rfl, rfl, rfl, rfl, rfl, rfl, rfl, rfl, rfl, rfl, rfl, rfl, rfl, trivial⟩, ?_⟩
      ·(try dsimp only); omega
      ·exact ⟨by omega, by omega⟩
      ·(try dsimp only); rw [show (j + 1).toNat = j.toNat + 1 by omega, Hu.onL_succ, Hu.twL_succ, List.map_append, List.map_append, Hu.two_f hsp]; exact hS
    ·obtain rfl : j = xs.length := by omega
     rw [Int.toNat_natCast] at hS
     replace hS := hS.perm (.swap _ _ _)
     obtain ⟨zO1, hO1, hS⟩ := St.freezeV (h0 := fun _ => rfl) (f := vt) (p := fun _ => True) (xs := (Hu.onL q rs ks xs.length)) hS (by first | exact (Hu.onL_len _ _ _).symm | exact (Hu.twL_len _ _ _ _).symm) (by omega) (fun _ _ => trivial)
     replace hS : St _ [_, _, _, _, _, _, _, _] [_, _, _] _ := hS
     obtain ⟨zO2, hO2, hS⟩ := St.freezeV (h0 := fun _ => rfl) (f := vt) (p := fun _ => True) (xs := (Hu.twL xb q rs ks k xs.length)) hS (by first | exact (Hu.onL_len _ _ _).symm | exact (Hu.twL_len _ _ _ _).symm) (by omega) (fun _ _ => trivial)
     replace hS : St _ [_, _, _, _, _, _, _, _, _] [_, _] _ := hS
     have hol1 := Hu.onL_len (ks := ks) q rs xs.length
     have hol2 := Hu.twL_len (xb := xb) (ks := ks) q rs k xs.length
     have hone := Hu.one_eq hR9 hN4 hN5 rs
     have htwo := Hu.two_ne hfam hN4 hN5 rs hk3
     refine wp_exit ?_
     refine hK39 _ _ ?_
     clear hK39
     refine wp_seq_k ?_; intro K46 hK46
     refine regl ?_
     refine wpl_sq hF hS (sq rfl (q_move rfl) <|
       sq rfl (q_bf (q_not rfl) (rfl)) <|
       sq rfl (q_move rfl) <|
       sq_go 214 rfl rfl rfl (q_ld_blkW ty26 1 rfl rfl bQ rfl) <|
       sq_go 214 rfl rfl rfl (q_move rfl) <|
       sq_end) ?_
     clear hF hS; intro a w hF hS
     refine wpl_efg hF hS (wanted_go 214 rfl rfl) rfl (ef_call fn43 rfl (fun w hS => guilty_ct _ _ _ _ _ _ _ (by omega) (by omega) (by omega) w (sl_one' hnF) (Sl.mono (hS.le (.inr (by simp))) hsF) (Sl.mono (hS.le (.inr (by simp))) hbF) (Sl.mono (hS.le (.inr (by simp))) hO1))) ?_
     clear hF hS; rintro v13 _ _ a w ⟨_, _, rfl, rfl, ⟨z14, hz15, rfl, rfl⟩⟩ hF hS
     replace hS : St _ [_, _, _, _, _, _, _, _, _, _] [_, _] _ := hS
     refine wpl_sq hF hS (sq_go 214 rfl rfl rfl (q_move rfl) <|
       sq_go 214 rfl rfl rfl (q_call fn31 rfl (fun w hS => samei_ct _ _ _ _ w (Sl.mono (hS.le (.inr (by simp))) hz15) (Sl.mono (hS.le (.inr (by simp))) hfR)) (fun _ _ _ h => h)) <|
       sq_go 214 rfl rfl rfl (q_nf (q_not rfl) (by rw [hone])) <|
       sq rfl (q_pick_f rfl rfl) <|
       sq rfl (q_move rfl) <|
       sq_go 222 rfl rfl rfl (q_ld_blkW ty26 1 rfl rfl bQ rfl) <|
       sq_go 222 rfl rfl rfl (q_move rfl) <|
       sq_end) ?_
     clear hF hS; intro a w hF hS
     refine wpl_efg hF hS (wanted_go 222 rfl rfl) rfl (ef_call fn43 rfl (fun w hS => guilty_ct _ _ _ _ _ _ _ (by omega) (by omega) (by omega) w (sl_one' hnF) (Sl.mono (hS.le (.inr (by simp))) hsF) (Sl.mono (hS.le (.inr (by simp))) hbF) (Sl.mono (hS.le (.inr (by simp))) hO2))) ?_
     clear hF hS; rintro v16 _ _ a w ⟨_, _, rfl, rfl, ⟨z17, hz18, rfl, rfl⟩⟩ hF hS
     replace hS : St _ [_, _, _, _, _, _, _, _, _, _, _] [_, _] _ := hS
     refine wpl_sq hF hS (sq_go 222 rfl rfl rfl (q_move rfl) <|
       sq_go 222 rfl rfl rfl (q_df (q_call fn31 rfl (fun w hS => samei_ct _ _ _ _ w (Sl.mono (hS.le (.inr (by simp))) hz18) (Sl.mono (hS.le (.inr (by simp))) hfR)) (fun _ _ _ h => h)) (htwo)) <|
       sq rfl (q_pick_f rfl rfl) <|
       sq_end) ?_
     clear hF hS; intro a w hF hS
     refine wpList_nil ?_
     refine hK46 _ _ ?_
     clear hK46
     refine wp_if hF rfl (fun h => absurd h (by simp)) (fun _ => ?_)
     refine wp_skip ?_
     refine hK27 _ _ ?_
     clear hK27
     refine reg hF hS (sq rfl (q_move rfl) <|
       sq rfl (q_addi rfl rfl (by omega)) <|
       sq rfl (q_assign rfl) <|
       sq_end) ?_
     clear hF hS; intro a w hF hS
     replace hS := hS.keep (sQ.n.n.n.n) sQ
     refine ⟨(e + 1), ?_, ?_, hF.sub ⟨rfl, rfl, rfl, rfl, rfl, rfl, rfl, rfl, trivial⟩, ?_⟩
     ·(try dsimp only); omega
     ·exact ⟨by omega, by omega⟩
     ·exact hS
  ·refine wp_exit ?_
   refine hK23 _ _ ?_
   clear hK23
   refine wp_seq_k ?_; intro K47 hK47
   refine reg hF hS (sq rfl (q_call fn25 rfl (fun w hS => lives_ct w ) (fun _ _ _ h => h)) <|
     sq rfl (q_assign rfl) <|
     sq_end) ?_
   clear hF hS; intro a w hF hS
   refine hK47 _ _ ?_
   clear hK47
   refine wp_ret ?_
   exact fn_ret (rs := [.tmp 8]) rfl hF hS (vs := [_]) ⟨rfl, trivial⟩ zQ zQ (rfl)
end Go.Proofs.Ytefjpigmgmbghaa
