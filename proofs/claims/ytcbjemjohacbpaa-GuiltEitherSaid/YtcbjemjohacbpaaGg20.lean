/- A text of a proof over this seat: walks over the program's functions and the plain laws that they need. -/
import Derived.Test.YtcbjemjohacbpaaGg23
import Derived.Test.YtcbjemjohacbpaaGuA
import Derived.Test.YtcbjemjohacbpaaFwC
import Derived.Test.YtcbjemjohacbpaaFwB
set_option linter.all false
namespace Go.Proofs.Ytcbjemjohacbpaa
open Go.Fw


/-- A fresh row of marks. -/
def RowT (e : TypeId) (xs : List Bool) : Value → List PH → List Res → Prop := fun r zs hs => zs = [] ∧ hs = [.row r e 1 xs.length (xs.map vt)]

set_option maxRecDepth 4000 in
set_option maxHeartbeats 2000000 in
theorem each_own_ct (xN xS xB : Value) (xs : List Int) (xb : List Bool) (v : Value) (m : List Int) (hl : xs.length < 1048576) (w : World) (hxn : xN.oneCell' = true) (hxs : Sl encI (ph w) xS xs) (hxb : Sl encT (ph w) xB xb) (hm : Sl encI (ph w) v m) : Ct Try.prog 12 [.agg [xN, xS, xB].toArray, v] w (RowT 4 (Gu.eac xb m (min xs.length xb.length))) := by
 refine fn_enter Try.func12 rfl Try.ntmps12 (Nat.le_of_ble_eq_true rfl) fun a hF hS => ?_
 have hsl := hxs.1
 have htl := hxb.1
 have hml := hm.1
 refine wp_seq_k ?_; intro K1 hK1
 refine regl ?_
 refine wpl_ef hF hS rfl (ef_boxA rfl) ?_
 clear hF hS; rintro _ _ _ a w ⟨b1, rfl, rfl, rfl⟩ hF hS
 refine wpl_sq hF hS (sq rfl (q_assign rfl) <|
   sq_end) ?_
 clear hF hS; intro a w hF hS
 refine wpList_nil ?_
 refine hK1 _ _ ?_
 clear hK1
 refine wp_seq_k ?_; intro K2 hK2
 refine reg hF hS (sq rfl (q_assign rfl) <|
   sq_end) ?_
 clear hF hS; intro a w hF hS
 replace hS := hS.nilRow 4 1
 refine hK2 _ _ ?_
 clear hK2
 refine wp_seq_k ?_; intro K3 hK3
 refine wp_seq_k ?_; intro K4 hK4
 refine reg hF hS (sq rfl (q_assign rfl) <|
   sq_end) ?_
 clear hF hS; intro a w hF hS
 refine hK4 _ _ ?_
 clear hK4
 refine wp_block ?_
 obtain ⟨hs0, hhs0, hS⟩ : ∃ h, h = _ ∧ St _ _ h _ := ⟨_, rfl, hS⟩
 refine wp_loopx (γ := Value × Int) ((Value.slice none 0 0), 0) (fun (gg : Value × Int) => match gg with | (u, k) => [(5, u), (6, vi k)]) [(1, _), (2, _)] (fun (gg : Value × Int) => match gg with | (u, k) => (hs0.set 0 (.row u 4 1 (Gu.eac xb m k.toNat).length ((Gu.eac xb m k.toNat).map vt)))) (fun (gg : Value × Int) => match gg with | (u, k) => 0 ≤ k ∧ k ≤ xs.length ∧ k ≤ xb.length) (fun (gg : Value × Int) => match gg with | (u, k) => (xs.length - k).toNat) (hF.sub ⟨rfl, rfl, rfl, rfl, trivial⟩) (by subst hhs0; exact hS) (by exact ⟨Int.le_refl _, by omega, by omega⟩) ?_
 clear hF hS; rintro ⟨u, k⟩ a w hfact hF hS
 subst hhs0; (try dsimp only at hfact); (try dsimp only at hF); (try dsimp only at hS)
 obtain ⟨hk0, hk1, hk2⟩ := hfact
 replace hS : St _ [] [_, _] _ := hS
 have hel := Gu.eac_len xb m k.toNat
 refine wp_seq_k ?_; intro K5 hK5
 refine wp_seq_k ?_; intro K6 hK6
 refine regl ?_
 refine wpl_sq hF hS (sq rfl (q_move rfl) <|
   sq rfl (q_fieldAddr ty29 rfl rfl (s' := 0) kQ) <|
   sq rfl (q_ld_blk1 ty22 1 rfl rfl rfl rfl) <|
   sq rfl (q_len_sl ty22 hxs rfl) <|
   sq rfl (q_lti rfl rfl) <|
   sq rfl (q_move rfl) <|
   sq_end) ?_
 clear hF hS; intro a w hF hS
 refine wpl_and 5 12 5 hF hS rfl rfl rfl rfl rfl (fun hg => have hg := (by first | exact of_decide_eq_true hg | exact hg); sq_go 12 rfl rfl rfl (q_move rfl) <|
   sq_go 12 rfl rfl rfl (q_fieldAddr ty29 rfl rfl (s' := 0) kQ) <|
   sq_go 12 rfl rfl rfl (q_ld_blk1 ty23 1 rfl rfl rfl rfl) <|
   sq_go 12 rfl rfl rfl (q_len_sl ty23 hxb rfl) <|
   sq_go 12 rfl rfl rfl (q_lti rfl rfl) <|
   sq_end) rfl rfl ?_
 clear hF hS; intro a w hF hS
 refine wpList_nil ?_
 refine hK6 _ _ ?_
 clear hK6
 refine wp_if hF rfl (fun hc1 => ?_) (fun hc1 => ?_)
 ·(try simp only [Bool.or_eq_true, Bool.and_eq_true, Bool.or_eq_false_iff, Bool.and_eq_false_iff, decide_eq_true_eq, decide_eq_false_iff_not, Bool.not_eq_true', Bool.not_eq_false'] at hc1)
  refine wp_skip ?_
  refine hK5 _ _ ?_
  clear hK5
  refine wp_seq_k ?_; intro K7 hK7
  refine wp_block ?_
  refine regl ?_
  refine wpl_sq hF hS (sq rfl (q_move rfl) <|
    sq rfl (q_fieldAddr ty29 rfl rfl (s' := 0) kQ) <|
    sq rfl (q_ld_blk1 ty23 1 rfl rfl rfl rfl) <|
    sq rfl (q_move rfl) <|
    sq rfl (q_idx_sl ty23 ty4 hxb rfl rfl (by omega)) <|
    sq rfl (q_ld_T ty4 hxb zin0 rfl rfl (by omega)) <|
    sq rfl (q_move rfl) <|
    sq_end) ?_
  clear hF hS; intro a w hF hS
  refine wpl_and 6 27 4 hF hS rfl rfl rfl rfl rfl (fun hg => have hg := hg; sq_go 27 rfl rfl rfl (q_move rfl) <|
    sq_go 27 rfl rfl rfl (q_move rfl) <|
    sq_go 27 rfl rfl rfl (q_call fn47 rfl (fun w hS => at_ct _ _ _ _ (by omega) w (Sl.mono (hS.le zin0) hm)) (fun _ _ _ h => h)) <|
    sq_go 27 rfl rfl rfl (q_eqi rfl rfl) <|
    sq_end) rfl rfl ?_
  clear hF hS; intro a w hF hS
  refine wpl_ef hF hS rfl (ef_bsliceA ty23 ty4 rfl rfl oQ (by decide) rfl rfl) ?_
  clear hF hS; rintro v3 _ _ a w ⟨rfl, rfl⟩ hF hS
  replace hS : St _ [] [_, _, _] _ := hS
  refine wpl_ef hF hS rfl (ef_append ty23 ty4 1 rfl rfl rfl (src_row ty23 (k := 0) rfl oQ) bQ rfl (by decide)) ?_
  clear hF hS; rintro v5 _ _ a w ⟨rfl, rfl⟩ hF hS
  replace hS : St _ [] [_, _, _] _ := hS
  refine wpl_sq hF hS (sq rfl (q_assign rfl) <|
    sq_end) ?_
  clear hF hS; intro a w hF hS
  refine wpList_nil ?_
  refine hK7 _ _ ?_
  clear hK7
  refine reg hF hS (sq rfl (q_move rfl) <|
    sq rfl (q_addi rfl rfl (by omega)) <|
    sq rfl (q_assign rfl) <|
    sq_end) ?_
  clear hF hS; intro a w hF hS
  replace hS := hS.keep zQ (sQ.n)
  refine ⟨(v5, k + 1), ?_, ?_, hF.sub ⟨rfl, rfl, rfl, rfl, trivial⟩, ?_⟩
  ·(try dsimp only); omega
  ·(try dsimp only); omega
  ·dsimp only; rw [show (k + 1).toNat = k.toNat + 1 by omega, Gu.eac_len, Gu.eac_step, List.map_append, show ((k.toNat : Nat) : Int) = k by omega]; rw [Gu.eac_len] at hS; exact hS
 ·(try simp only [Bool.or_eq_true, Bool.and_eq_true, Bool.or_eq_false_iff, Bool.and_eq_false_iff, decide_eq_true_eq, decide_eq_false_iff_not, Bool.not_eq_true', Bool.not_eq_false'] at hc1)
  obtain rfl : k = (min xs.length xb.length : Nat) := by omega
  rw [Int.toNat_natCast] at hS hel
  refine wp_exit ?_
  refine hK3 _ _ ?_
  clear hK3
  refine wp_seq_k ?_; intro K8 hK8
  refine reg hF hS (sq rfl (q_move rfl) <|
    sq rfl (q_assign rfl) <|
    sq_end) ?_
  clear hF hS; intro a w hF hS
  refine hK8 _ _ ?_
  clear hK8
  refine wp_ret ?_
  exact fn_ret (rs := [.tmp 4]) rfl hF hS (vs := [_]) ⟨rfl, trivial⟩ (zs' := []) (hs' := [_]) zQ (List.singleton_sublist.2 (by simp)) ⟨rfl, rfl⟩

set_option maxRecDepth 4000 in
set_option maxHeartbeats 2000000 in
theorem law20_ct (v : Value) (l : List Int) (v2 : Value) (m : List Int) (t : Int) (ht9 : -9223372036854775808 ≤ t ∧ t ≤ 9223372036854775807) (w : World) (hl : Sl encI (ph w) v l) (hm : Sl encI (ph w) v2 m) : Ct Try.prog 6 [v, v2, vi t] w (fun r _ _ => r = .bool true) := by
 refine fn_enter Try.func6 rfl Try.ntmps6 (Nat.le_of_ble_eq_true rfl) fun a hF hS => ?_
 refine wp_seq_k ?_; intro K1 hK1
 refine reg hF hS (sq rfl (q_assign rfl) <|
   sq_end) ?_
 clear hF hS; intro a w hF hS
 refine hK1 _ _ ?_
 clear hK1
 refine wp_seq_k ?_; intro K2 hK2
 refine regl ?_
 refine wpl_sq hF hS (sq rfl (q_move rfl) <|
   sq_end) ?_
 clear hF hS; intro a w hF hS
 refine wpl_ef hF hS rfl (ef_call fn28 rfl (fun w hS => family_ct _ _ w (Sl.mono (hS.le zin0) hl))) ?_
 clear hF hS; rintro _ _ _ a w ⟨_, _, rfl, rfl, ⟨nvF, svF, bvF, ns, xs, xb, zF, rfl, hnF, hsF, hbF, lnF, lsF, lbF, leqF, rfl, rfl⟩⟩ hF hS
 replace hS : St _ [_] [] _ := hS
 refine wpl_ef hF hS rfl (ef_allocA ty29) ?_
 clear hF hS; rintro _ _ _ a w ⟨b2, rfl, rfl, rfl⟩ hF hS
 refine wpl_ef hF hS rfl (ef_storeW ty29 0 rfl rfl rfl rfl bQ (oc_cons (sl_one' hnF) (oc_cons (sl_one' hsF) (oc_cons (sl_one' hbF) oc_nil))) bQ) ?_
 clear hF hS; rintro _ _ _ a w ⟨rfl, rfl, rfl⟩ hF hS
 replace hS : St _ [_] [_] _ := hS
 refine wpList_nil ?_
 obtain ⟨heq, hfam⟩ := leqF rfl
 have hr9 := Gu.fam_r hfam
 have hmin : min xs.length xb.length = xs.length := by omega
 refine hK2 _ _ ?_
 clear hK2
 refine wp_seq_k ?_; intro K3 hK3
 refine regl ?_
 refine wpl_sq hF hS (sq rfl (q_ld_blkW ty29 0 rfl rfl bQ rfl) <|
   sq rfl (q_move rfl) <|
   sq_end) ?_
 clear hF hS; intro a w hF hS
 refine wpl_ef hF hS rfl (ef_call fn12 rfl (fun w hS => each_own_ct _ _ _ _ _ _ _ (by first | with_reducible assumption | omega) w (sl_one' hnF) (Sl.mono (hS.le (.inr (by simp))) hsF) (Sl.mono (hS.le (.inr (by simp))) hbF) (Sl.mono (hS.le zin0) hm))) ?_
 clear hF hS; rintro vE _ _ a w ⟨_, _, rfl, rfl, ⟨rfl, rfl⟩⟩ hF hS
 replace hS : St _ [_] [_, _] _ := hS
 refine wpl_sq hF hS (sq rfl (q_assign rfl) <|
   sq_end) ?_
 clear hF hS; intro a w hF hS
 refine wpList_nil ?_
 rw [hmin] at hS
 have hfit0 := Gu.eac_fit xs xb m heq
 obtain ⟨M0, hM0⟩ : ∃ M0, M0 = Gu.eac xb m xs.length := ⟨_, rfl⟩
 rw [← hM0] at hS hfit0
 have hML0 := (Gu.fits_use hfit0).1
 replace hS := hS.rowEq hML0 rfl
 refine hK3 _ _ ?_
 clear hK3
 obtain ⟨hs0, hhs0, hS⟩ : ∃ h, h = _ ∧ St _ _ h _ := ⟨_, rfl, hS⟩
 refine wp_cutx (γ := List Bool) (fun (M : List Bool) => []) [(2, _), (7, _), (8, _)] (fun (M : List Bool) => (hs0.set 0 (.row vE 4 1 xs.length (M.map vt)))) (fun (M : List Bool) => M.length = xs.length ∧ Gu.fitsB xs.length xb M = true ∧ (t.tmod 2 = 0 → Gu.Up xs xb M xs.length)) (hF.sub ⟨rfl, rfl, rfl, trivial⟩) hS ?_ ?_
 ·subst hhs0
  refine wp_seq_k ?_; intro K4 hK4
  refine reg hF hS (sq rfl (q_move rfl) <|
    sq rfl (q_remi' rfl rfl (by decide)) <|
    sq rfl (q_eqi rfl rfl) <|
    sq_end) ?_
  clear hF hS; intro a w hF hS
  refine hK4 _ _ ?_
  clear hK4
  refine wp_ifd hF rfl (fun hc1 => ?_) (fun hc1 => ?_)
  ·refine wp_seq_k ?_; intro K5 hK5
   refine reg hF hS (sq rfl (q_assign rfl) <|
     sq_end) ?_
   clear hF hS; intro a w hF hS
   refine hK5 _ _ ?_
   clear hK5
   refine wp_block ?_
   obtain ⟨hs0, hhs0, hS⟩ : ∃ h, h = _ ∧ St _ _ h _ := ⟨_, rfl, hS⟩
   refine wp_loopx (γ := List Bool × Int) (M0, 0) (fun (gg : List Bool × Int) => match gg with | (M, i) => [(9, vi i)]) [(2, _), (7, _), (8, _)] (fun (gg : List Bool × Int) => match gg with | (M, i) => (hs0.set 0 (.row vE 4 1 xs.length (M.map vt)))) (fun (gg : List Bool × Int) => match gg with | (M, i) => 0 ≤ i ∧ i ≤ xs.length ∧ M.length = xs.length ∧ Gu.fitsB xs.length xb M = true ∧ Gu.Up xs xb M i.toNat) (fun (gg : List Bool × Int) => match gg with | (M, i) => (xs.length - i).toNat) (hF.sub ⟨rfl, rfl, rfl, rfl, trivial⟩) (by subst hhs0; exact hS) (by exact ⟨Int.le_refl _, by omega, hML0, hfit0, fun a h => absurd h (by simp)⟩) ?_
   clear hF hS; rintro ⟨M, i⟩ a w hfact hF hS
   subst hhs0; (try dsimp only at hfact); (try dsimp only at hF); (try dsimp only at hS)
   obtain ⟨hi0, hi1, hML, hfit, hup⟩ := hfact
   replace hS : St _ [_] [_, _] _ := hS
   refine wp_seq_k ?_; intro K6 hK6
   refine wp_seq_k ?_; intro K7 hK7
   refine reg hF hS (sq rfl (q_move rfl) <|
     sq rfl (q_move rfl) <|
     sq rfl (q_len_row ty23 0 rfl rfl) <|
     sq rfl (q_lti rfl rfl) <|
     sq_end) ?_
   clear hF hS; intro a w hF hS
   refine hK7 _ _ ?_
   clear hK7
   refine wp_ifd hF rfl (fun hc2 => ?_) (fun hc2 => ?_)
   ·refine wp_skip ?_
    refine hK6 _ _ ?_
    clear hK6
    refine wp_seq_k ?_; intro K8 hK8
    refine wp_block ?_
    refine wp_seq_k ?_; intro K9 hK9
    refine reg hF hS (sq rfl (q_assign rfl) <|
      sq_end) ?_
    clear hF hS; intro a w hF hS
    refine hK9 _ _ ?_
    clear hK9
    refine wp_block ?_
    obtain ⟨hs0, hhs0, hS⟩ : ∃ h, h = _ ∧ St _ _ h _ := ⟨_, rfl, hS⟩
    refine wp_loopx (γ := List Bool × Int) (M, 0) (fun (gg : List Bool × Int) => match gg with | (M2, k) => [(10, vi k)]) [(2, _), (7, _), (8, _), (9, _)] (fun (gg : List Bool × Int) => match gg with | (M2, k) => (hs0.set 0 (.row vE 4 1 xs.length (M2.map vt)))) (fun (gg : List Bool × Int) => match gg with | (M2, k) => 0 ≤ k ∧ k ≤ i ∧ M2.length = xs.length ∧ Gu.fitsB xs.length xb M2 = true ∧ Gu.Up xs xb M2 i.toNat ∧ Gu.Upk xs xb M2 i.toNat k.toNat) (fun (gg : List Bool × Int) => match gg with | (M2, k) => (i - k).toNat) (hF.sub ⟨rfl, rfl, rfl, rfl, rfl, trivial⟩) (by subst hhs0; exact hS) (by exact ⟨Int.le_refl _, by omega, hML, hfit, hup, fun a h => absurd h (by simp)⟩) ?_
    clear hF hS; rintro ⟨M2, k⟩ a w hfact hF hS
    subst hhs0; (try dsimp only at hfact); (try dsimp only at hF); (try dsimp only at hS)
    obtain ⟨hk0, hk1, hML2, hfit2, hup2, hupk⟩ := hfact
    replace hS : St _ [_] [_, _] _ := hS
    refine wp_seq_k ?_; intro K10 hK10
    refine wp_seq_k ?_; intro K11 hK11
    refine reg hF hS (sq rfl (q_move rfl) <|
      sq rfl (q_move rfl) <|
      sq rfl (q_lti rfl rfl) <|
      sq_end) ?_
    clear hF hS; intro a w hF hS
    refine hK11 _ _ ?_
    clear hK11
    refine wp_ifd hF rfl (fun hc3 => ?_) (fun hc3 => ?_)
    ·refine wp_skip ?_
     refine hK10 _ _ ?_
     clear hK10
     refine wp_seq_k ?_; intro K12 hK12
     refine wp_block ?_
     refine regqt 33 mixed kQ hS ?_
     refine wpq_seg hF (sq rfl (q_move rfl) <|
       sq rfl (q_move rfl) <|
       sq rfl (q_move rfl) <|
       sq rfl (q_move rfl) <|
       sq rfl (q_idx_row ty23 ty4 0 rfl rfl rfl (by omega)) <|
       sq rfl (q_ld_rowM ty4 0 false rfl rfl bQ rfl) <|
       sq rfl (q_move rfl) <|
       sq_end) ?_
     clear hF; intro a hF
     refine wpq_orG (q := ((xb.getD i.toNat false && M2.getD k.toNat false) && Gu.wi (xs.getD k.toNat 0) (xs.getD i.toNat 0))) 49 24 hF rfl (by rfl) rfl (by exact trivial) (fun _ => sq_skip 49 rfl rfl rfl rfl <|
       sq_skip 49 rfl rfl rfl rfl <|
       sq_skip 49 rfl rfl rfl rfl <|
       sq_skip 49 rfl rfl rfl rfl <|
       sq_skip 49 rfl rfl rfl rfl <|
       sq_skip 49 rfl rfl rfl rfl <|
       sq_skipu 55 rfl rfl rfl <|
       sq_skipu 55 rfl rfl rfl <|
       sq_skipu 55 rfl rfl rfl <|
       sq_skipu 55 rfl rfl rfl <|
       sq_skip 49 rfl rfl rfl rfl <|
       sq_skip 49 rfl rfl rfl rfl <|
       sq_skipu 61 rfl rfl rfl <|
       sq_skipu 61 rfl rfl rfl <|
       sq_skipu 61 rfl rfl rfl <|
       sq_skipu 61 rfl rfl rfl <|
       sq_skipu 61 rfl rfl rfl <|
       sq_skipu 61 rfl rfl rfl <|
       sq_skipu 61 rfl rfl rfl <|
       sq_skipu 61 rfl rfl rfl <|
       sq_skipu 61 rfl rfl rfl <|
       sq_skipu 61 rfl rfl rfl <|
       sq_skipu 61 rfl rfl rfl <|
       sq_skip 49 rfl rfl rfl rfl <|
       sq_end) rfl (fun hg a hF KG => ?_) ?_
     ·have hg := hg
      refine wpq_seg hF (sq_go 49 rfl rfl rfl (q_fieldAddr ty29 rfl rfl (s' := 0) kQ) <|
        sq_go 49 rfl rfl rfl (q_ld_blk1 ty23 1 rfl rfl rfl rfl) <|
        sq_go 49 rfl rfl rfl (q_move rfl) <|
        sq_go 49 rfl rfl rfl (q_idx_sl ty23 ty4 hbF rfl rfl (by omega)) <|
        sq_go 49 rfl rfl rfl (q_ld_T ty4 hbF (.inr (by simp)) rfl rfl (by omega)) <|
        sq_go 49 rfl rfl rfl (q_move rfl) <|
        sq_end) ?_
      clear hF; intro a hF
      refine wpq_andP 12 55 4 6 49 hF rfl rfl rfl rfl rfl rfl rfl (fun hg => have hg := hg; sq_go 55 rfl rfl rfl (q_move rfl) <|
        sq_go 55 rfl rfl rfl (q_move rfl) <|
        sq_go 55 rfl rfl rfl (q_idx_row ty23 ty4 0 rfl rfl rfl (by omega)) <|
        sq_go 55 rfl rfl rfl (q_ld_rowM ty4 0 false rfl rfl bQ rfl) <|
        sq_end) rfl rfl ?_
      clear hF; intro a hF
      refine wpq_seg hF (sq_go 49 rfl rfl rfl (q_move rfl) <|
        sq_end) ?_
      clear hF; intro a hF
      refine wpq_andP 18 61 11 6 49 hF rfl rfl rfl rfl rfl rfl rfl (fun hg => have hg := hg; sq_go 61 rfl rfl rfl (q_fieldAddr ty29 rfl rfl (s' := 0) kQ) <|
        sq_go 61 rfl rfl rfl (q_ld_blk1 ty22 1 rfl rfl rfl rfl) <|
        sq_go 61 rfl rfl rfl (q_move rfl) <|
        sq_go 61 rfl rfl rfl (q_idx_sl ty22 ty3 hsF rfl rfl (by omega)) <|
        sq_go 61 rfl rfl rfl (q_ld_I ty3 hsF (.inr (by simp)) rfl rfl (by omega)) <|
        sq_go 61 rfl rfl rfl (q_fieldAddr ty29 rfl rfl (s' := 0) kQ) <|
        sq_go 61 rfl rfl rfl (q_ld_blk1 ty22 1 rfl rfl rfl rfl) <|
        sq_go 61 rfl rfl rfl (q_move rfl) <|
        sq_go 61 rfl rfl rfl (q_idx_sl ty22 ty3 hsF rfl rfl (by omega)) <|
        sq_go 61 rfl rfl rfl (q_ld_I ty3 hsF (.inr (by simp)) rfl rfl (by omega)) <|
        sq_go 61 rfl rfl rfl (q_call fn30 rfl (fun w hS => in_ct _ _ w ) (fun _ _ _ h => h)) <|
        sq_end) rfl rfl ?_
      clear hF; intro a hF
      refine wpq_seg hF (sq rfl (q_pick_f rfl rfl) <|
        sq_end) ?_
      clear hF; intro a hF
      exact KG _ (hF.under 9 rfl rfl)
     clear hF; intro a hF
     refine wpq_seg hF (sq rfl (q_idx_row ty23 ty4 0 rfl rfl rfl (by omega)) <|
       sq_end) ?_
     clear hF; intro a hF
     refine wpq_nil ?_
     clear hS; intro w hS
     refine wpl_ef hF hS rfl (ef_st_row ty4 0 rfl rfl rfl (by omega) rfl) ?_
     clear hF hS; rintro _ _ _ a w ⟨rfl, rfl, rfl⟩ hF hS
     replace hS : St _ [_] [_, _] _ := hS
     refine wpList_nil ?_
     refine hK12 _ _ ?_
     clear hK12
     refine reg hF hS (sq rfl (q_move rfl) <|
       sq rfl (q_addi rfl rfl (by omega)) <|
       sq rfl (q_assign rfl) <|
       sq_end) ?_
     clear hF hS; intro a w hF hS
     refine ⟨(M2.set i.toNat (M2.getD i.toNat false || ((xb.getD i.toNat false && M2.getD k.toNat false) && Gu.wi (xs.getD k.toNat 0) (xs.getD i.toNat 0))), k + 1), ?_, ?_, hF.sub ⟨rfl, rfl, rfl, rfl, rfl, trivial⟩, ?_⟩
     ·(try dsimp only); omega
     ·exact ⟨by omega, by omega, by rw [List.length_set]; exact hML2, Gu.up_fit hfit2 (by omega) (Gu.up_b hfit2), Gu.up_keep (by omega) hup2, by rw [show (k + 1).toNat = k.toNat + 1 by omega]; exact Gu.upk_step (by omega) (by omega) hupk⟩
     ·dsimp only; rw [List.map_set]; exact hS
    ·obtain rfl : i = k := by omega
     refine wp_exit ?_
     refine hK8 _ _ ?_
     clear hK8
     refine reg hF hS (sq rfl (q_move rfl) <|
       sq rfl (q_addi rfl rfl (by omega)) <|
       sq rfl (q_assign rfl) <|
       sq_end) ?_
     clear hF hS; intro a w hF hS
     refine ⟨(M2, i + 1), ?_, ?_, hF.sub ⟨rfl, rfl, rfl, rfl, trivial⟩, ?_⟩
     ·(try dsimp only); omega
     ·exact ⟨by omega, by omega, hML2, hfit2, by rw [show (i + 1).toNat = i.toNat + 1 by omega]; exact Gu.up_next hup2 hupk⟩
     ·exact hS
   ·obtain rfl : i = xs.length := by omega
    rw [Int.toNat_natCast] at hup
    refine wp_exit ?_
    refine ⟨(M), ?_, hF.sub ⟨rfl, rfl, rfl, trivial⟩, ?_⟩
    ·exact ⟨hML, hfit, fun _ => hup⟩
    ·exact hS
  ·refine wp_skip ?_
   refine ⟨(M0), ?_, hF.sub ⟨rfl, rfl, rfl, trivial⟩, ?_⟩
   ·exact ⟨hML0, hfit0, fun h => absurd h hc1⟩
   ·exact hS
 clear hF hS; rintro M a w hfact hF hS
 subst hhs0; (try dsimp only at hfact); (try dsimp only at hF); (try dsimp only at hS)
 obtain ⟨hML, hfit, hup⟩ := hfact
 replace hS : St _ [_] [_, _] _ := hS
 have hge : Gu.ge xs xb M = 0 := by unfold Gu.ge; rw [if_pos hfit]
 obtain ⟨z4, hz5, hS⟩ := St.freezeV (h0 := fun _ => rfl) (f := vt) (p := fun _ => True) (xs := M) hS hML.symm (by omega) (fun _ _ => trivial)
 replace hS : St _ [_, _] [_] _ := hS
 refine wp_seq_k ?_; intro K13 hK13
 refine regl ?_
 refine wpl_sq hF hS (sq rfl (q_ld_blkW ty29 0 rfl rfl bQ rfl) <|
   sq rfl (q_call fn14 rfl (fun w hS => own_ct _ _ _ _ _ w (sl_one' hnF) (Sl.mono (hS.le (.inr (by simp))) hsF) (Sl.mono (hS.le (.inr (by simp))) hbF)) (fun _ _ _ h => h)) <|
   sq rfl (q_move rfl) <|
   sq_end) ?_
 clear hF hS; intro a w hF hS
 refine wpl_ef hF hS rfl (ef_call fn13 rfl (fun w hS => guilty_ct _ _ _ _ _ _ _ (by first | with_reducible assumption | omega) w (sl_one' hnF) (Sl.mono (hS.le (.inr (by simp))) hsF) (Sl.mono (hS.le (.inr (by simp))) hbF) (Sl.mono (hS.le (.inr (by simp))) hz5))) ?_
 clear hF hS; rintro _ _ _ a w ⟨_, _, rfl, rfl, ⟨vG, zG, hzG, rfl, rfl, rfl⟩⟩ hF hS
 replace hS : St _ [_, _, _] [_] _ := hS
 refine wpl_sq hF hS (sq rfl (q_move rfl) <|
   sq rfl (q_extract rfl rfl) <|
   sq rfl (q_extract rfl rfl) <|
   sq rfl (q_assign rfl) <|
   sq rfl (q_assign rfl) <|
   sq_end) ?_
 clear hF hS; intro a w hF hS
 refine wpList_nil ?_
 have hGe : Gu.gl xs xb M = Gu.minl xs M := Gu.gl_fit hfit
 obtain ⟨G, hG⟩ : ∃ G, G = Gu.gl xs xb M := ⟨_, rfl⟩
 rw [← hG] at hzG hGe
 have hGl : G.length ≤ 32 := by have := Gu.gl_len xs xb M; rw [← hG] at this; omega
 have hGn : G.Nodup := hG ▸ Gu.gl_nodup xs xb M
 refine hK13 _ _ ?_
 clear hK13
 refine wp_seq_k ?_; intro K14 hK14
 refine regl ?_
 refine wpl_sq hF hS (sq rfl (q_ld_blkW ty29 0 rfl rfl bQ rfl) <|
   sq rfl (q_call fn14 rfl (fun w hS => own_ct _ _ _ _ _ w (sl_one' hnF) (Sl.mono (hS.le (.inr (by simp))) hsF) (Sl.mono (hS.le (.inr (by simp))) hbF)) (fun _ _ _ h => h)) <|
   sq rfl (q_move rfl) <|
   sq_end) ?_
 clear hF hS; intro a w hF hS
 refine wpl_ef hF hS rfl (ef_call fn20 rfl (fun w hS => hidden_ct _ _ _ _ _ _ _ (by first | with_reducible assumption | omega) w (sl_one' hnF) (Sl.mono (hS.le (.inr (by simp))) hsF) (Sl.mono (hS.le (.inr (by simp))) hbF) (Sl.mono (hS.le (.inr (by simp))) hz5))) ?_
 clear hF hS; rintro _ _ _ a w ⟨_, _, rfl, rfl, ⟨vH, zH, hzH, rfl, rfl, rfl⟩⟩ hF hS
 replace hS : St _ [_, _, _, _] [_] _ := hS
 refine wpl_sq hF hS (sq rfl (q_move rfl) <|
   sq rfl (q_extract rfl rfl) <|
   sq rfl (q_extract rfl rfl) <|
   sq rfl (q_assign rfl) <|
   sq rfl (q_assign rfl) <|
   sq_end) ?_
 clear hF hS; intro a w hF hS
 refine wpList_nil ?_
 refine hK14 _ _ ?_
 clear hK14
 refine wp_seq_k ?_; intro K15 hK15
 refine regl ?_
 refine wpl_sq hF hS (sq rfl (q_ld_blkW ty29 0 rfl rfl bQ rfl) <|
   sq rfl (q_call fn14 rfl (fun w hS => own_ct _ _ _ _ _ w (sl_one' hnF) (Sl.mono (hS.le (.inr (by simp))) hsF) (Sl.mono (hS.le (.inr (by simp))) hbF)) (fun _ _ _ h => h)) <|
   sq rfl (q_move rfl) <|
   sq_end) ?_
 clear hF hS; intro a w hF hS
 refine wpl_ef hF hS rfl (ef_call fn22 rfl (fun w hS => together_ct _ _ _ _ _ _ _ (by first | with_reducible assumption | omega) w (sl_one' hnF) (Sl.mono (hS.le (.inr (by simp))) hsF) (Sl.mono (hS.le (.inr (by simp))) hbF) (Sl.mono (hS.le (.inr (by simp))) hz5))) ?_
 clear hF hS; rintro _ _ _ a w ⟨_, _, rfl, rfl, ⟨vT, zT, hzT, rfl, rfl, rfl⟩⟩ hF hS
 replace hS : St _ [_, _, _, _, _] [_] _ := hS
 refine wpl_sq hF hS (sq rfl (q_move rfl) <|
   sq rfl (q_extract rfl rfl) <|
   sq rfl (q_extract rfl rfl) <|
   sq rfl (q_assign rfl) <|
   sq rfl (q_assign rfl) <|
   sq_end) ?_
 clear hF hS; intro a w hF hS
 refine wpList_nil ?_
 obtain ⟨H, hH⟩ : ∃ H, H = Gu.hid xs xb M := ⟨_, rfl⟩
 rw [← hH] at hzH
 have hHn : t.tmod 2 = 0 → H = [] := fun h => hH.trans (Gu.hid_none hfam.1 hr9 hfit hfam.2.2 hfam.2.1 (hup h))
 have hHl : H.length ≤ 32 := by have := Gu.hid_len xs xb M; rw [← hH] at this; omega
 obtain ⟨T, hT⟩ : ∃ T, T = Gu.togs xs xb M := ⟨_, rfl⟩
 rw [← hT] at hzT
 have hT2 : T = Gu.tog xs xb (Gu.gl xs xb M) (Gu.gl xs xb M).length := hT
 have hTl : T.length ≤ 32 := by have := Gu.tog_len xs xb (Gu.gl xs xb M) (Gu.gl xs xb M).length; rw [← hT2, ← hG] at this; omega
 refine hK15 _ _ ?_
 clear hK15
 refine wp_seq_k ?_; intro K16 hK16
 refine wp_seq_k ?_; intro K17 hK17
 refine regl ?_
 refine wpl_sq hF hS (sq rfl (q_move rfl) <|
   sq rfl (q_nf (q_nei rfl rfl) (hge)) <|
   sq rfl (q_move rfl) <|
   sq_go 99 rfl rfl rfl (q_move rfl) <|
   sq_go 99 rfl rfl rfl (q_nf (q_nei rfl rfl) (hge)) <|
   sq rfl (q_pick_f rfl rfl) <|
   sq rfl (q_move rfl) <|
   sq_go 103 rfl rfl rfl (q_move rfl) <|
   sq_go 103 rfl rfl rfl (q_nf (q_nei rfl rfl) (hge)) <|
   sq rfl (q_pick_f rfl rfl) <|
   sq rfl (q_move rfl) <|
   sq_go 107 rfl rfl rfl (q_move rfl) <|
   sq_go 107 rfl rfl rfl (q_remi' rfl rfl (by decide)) <|
   sq_go 107 rfl rfl rfl (q_eqi rfl rfl) <|
   sq_go 107 rfl rfl rfl (q_move rfl) <|
   sq_end) ?_
 clear hF hS; intro a w hF hS
 refine wpl_andP 14 111 3 10 107 hF hS rfl rfl rfl rfl rfl rfl rfl (fun hg2 => have hg2 := (by first | exact of_decide_eq_true hg2 | exact hg2); sq_go 111 rfl rfl rfl (q_move rfl) <|
   sq_go 111 rfl rfl rfl (q_len_sl ty22 hzH rfl) <|
   sq_go 111 rfl rfl rfl (q_gti rfl rfl) <|
   sq_end) rfl rfl ?_
 clear hF hS; intro a w hF hS
 refine wpl_sq hF hS (sq rfl (q_pick_f rfl rfl) <|
   sq_end) ?_
 clear hF hS; intro a w hF hS
 refine wpList_nil ?_
 refine hK17 _ _ ?_
 clear hK17
 refine wp_if hF rfl (fun hc4 => ?_) (fun hc4 => ?_)
 ·(try simp only [Bool.or_eq_true, Bool.and_eq_true, Bool.or_eq_false_iff, Bool.and_eq_false_iff, decide_eq_true_eq, decide_eq_false_iff_not, Bool.not_eq_true', Bool.not_eq_false'] at hc4)
  exact absurd hc4.2 (by rw [hHn hc4.1]; decide)
 ·(try simp only [Bool.or_eq_true, Bool.and_eq_true, Bool.or_eq_false_iff, Bool.and_eq_false_iff, decide_eq_true_eq, decide_eq_false_iff_not, Bool.not_eq_true', Bool.not_eq_false'] at hc4)
  refine wp_skip ?_
  refine hK16 _ _ ?_
  clear hK16
  refine wp_seq_k ?_; intro K18 hK18
  refine wp_seq_k ?_; intro K19 hK19
  refine reg hF hS (sq rfl (q_assign rfl) <|
    sq_end) ?_
  clear hF hS; intro a w hF hS
  refine hK19 _ _ ?_
  clear hK19
  refine wp_block ?_
  obtain ⟨hs0, hhs0, hS⟩ : ∃ h, h = _ ∧ St _ _ h _ := ⟨_, rfl, hS⟩
  refine wp_loopx (γ := Int) (0) (fun (i : Int) => [(17, vi i)]) [(7, _), (8, _), (11, _), (13, _), (15, _)] (fun (i : Int) => hs0) (fun (i : Int) => 0 ≤ i ∧ i ≤ M.length) (fun (i : Int) => (M.length - i).toNat) (hF.sub ⟨rfl, rfl, rfl, rfl, rfl, rfl, trivial⟩) (by subst hhs0; exact hS) (by exact ⟨Int.le_refl _, by omega⟩) ?_
  clear hF hS; rintro i a w hfact hF hS
  subst hhs0; (try dsimp only at hfact); (try dsimp only at hF); (try dsimp only at hS)
  obtain ⟨hi0, hi1⟩ := hfact
  replace hS : St _ [_, _, _, _, _] [_] _ := hS
  refine wp_seq_k ?_; intro K20 hK20
  refine wp_seq_k ?_; intro K21 hK21
  refine reg hF hS (sq rfl (q_move rfl) <|
    sq rfl (q_move rfl) <|
    sq rfl (q_len_sl ty23 hz5 rfl) <|
    sq rfl (q_lti rfl rfl) <|
    sq_end) ?_
  clear hF hS; intro a w hF hS
  refine hK21 _ _ ?_
  clear hK21
  refine wp_ifd hF rfl (fun hc5 => ?_) (fun hc5 => ?_)
  ·refine wp_skip ?_
   refine hK20 _ _ ?_
   clear hK20
   refine wp_seq_k ?_; intro K22 hK22
   refine wp_block ?_
   refine wp_seq_k ?_; intro K23 hK23
   refine reg hF hS (sq rfl (q_assign rfl) <|
     sq_end) ?_
   clear hF hS; intro a w hF hS
   refine hK23 _ _ ?_
   clear hK23
   refine wp_seq_k ?_; intro K24 hK24
   refine wp_seq_k ?_; intro K25 hK25
   refine reg hF hS (sq rfl (q_assign rfl) <|
     sq_end) ?_
   clear hF hS; intro a w hF hS
   refine hK25 _ _ ?_
   clear hK25
   refine wp_block ?_
   obtain ⟨hs0, hhs0, hS⟩ : ∃ h, h = _ ∧ St _ _ h _ := ⟨_, rfl, hS⟩
   refine wp_loopx (γ := Int) (0) (fun (j : Int) => [(19, vi j), (18, .bool ((G.take j.toNat).all fun y => !Gu.wi y (xs.getD i.toNat 0)))]) [(7, _), (8, _), (11, _), (13, _), (15, _), (17, _)] (fun (j : Int) => hs0) (fun (j : Int) => 0 ≤ j ∧ j ≤ G.length) (fun (j : Int) => (G.length - j).toNat) (hF.sub ⟨rfl, rfl, rfl, rfl, rfl, rfl, rfl, rfl, trivial⟩) (by subst hhs0; exact hS) (by exact ⟨Int.le_refl _, by omega⟩) ?_
   clear hF hS; rintro j a w hfact hF hS
   subst hhs0; (try dsimp only at hfact); (try dsimp only at hF); (try dsimp only at hS)
   obtain ⟨hj0, hj1⟩ := hfact
   replace hS : St _ [_, _, _, _, _] [_] _ := hS
   refine wp_seq_k ?_; intro K26 hK26
   refine wp_seq_k ?_; intro K27 hK27
   refine reg hF hS (sq rfl (q_move rfl) <|
     sq rfl (q_move rfl) <|
     sq rfl (q_len_sl ty22 hzG rfl) <|
     sq rfl (q_lti rfl rfl) <|
     sq_end) ?_
   clear hF hS; intro a w hF hS
   refine hK27 _ _ ?_
   clear hK27
   refine wp_ifd hF rfl (fun hc6 => ?_) (fun hc6 => ?_)
   ·refine wp_skip ?_
    refine hK26 _ _ ?_
    clear hK26
    refine wp_seq_k ?_; intro K28 hK28
    refine wp_block ?_
    refine regq mixed kQ hS ?_
    refine wpq_seg hF (sq rfl (q_move rfl) <|
      sq rfl (q_move rfl) <|
      sq_end) ?_
    clear hF; intro a hF
    refine wpq_and 1 130 11 hF rfl rfl rfl rfl rfl (fun hg => have hg := hg; sq_go 130 rfl rfl rfl (q_move rfl) <|
      sq_go 130 rfl rfl rfl (q_move rfl) <|
      sq_go 130 rfl rfl rfl (q_idx_sl ty22 ty3 hzG rfl rfl (by omega)) <|
      sq_go 130 rfl rfl rfl (q_ld_I ty3 hzG (.inr (by simp)) rfl rfl (by omega)) <|
      sq_go 130 rfl rfl rfl (q_fieldAddr ty29 rfl rfl (s' := 0) kQ) <|
      sq_go 130 rfl rfl rfl (q_ld_blk1 ty22 0 rfl rfl rfl rfl) <|
      sq_go 130 rfl rfl rfl (q_move rfl) <|
      sq_go 130 rfl rfl rfl (q_idx_sl ty22 ty3 hsF rfl rfl (by omega)) <|
      sq_go 130 rfl rfl rfl (q_ld_I ty3 hsF (.inr (by simp)) rfl rfl (by omega)) <|
      sq_go 130 rfl rfl rfl (q_call fn30 rfl (fun w hS => in_ct _ _ w ) (fun _ _ _ h => h)) <|
      sq_go 130 rfl rfl rfl (q_not rfl) <|
      sq_end) rfl rfl ?_
    clear hF; intro a hF
    refine wpq_seg hF (sq rfl (q_assign rfl) <|
      sq_end) ?_
    clear hF; intro a hF
    refine wpq_nil ?_
    clear hS; intro w hS
    refine hK28 _ _ ?_
    clear hK28
    refine reg hF hS (sq rfl (q_move rfl) <|
      sq rfl (q_addi rfl rfl (by omega)) <|
      sq rfl (q_assign rfl) <|
      sq_end) ?_
    clear hF hS; intro a w hF hS
    refine ⟨(j + 1), ?_, ?_, hF.sub ⟨rfl, (by rw [show (j + 1).toNat = j.toNat + 1 by omega, Gu.all_take (by omega)]; rfl), rfl, rfl, rfl, rfl, rfl, rfl, trivial⟩, ?_⟩
    ·(try dsimp only); omega
    ·(try dsimp only); omega
    ·exact hS
   ·obtain rfl : j = G.length := by omega
    rw [Int.toNat_natCast, List.take_length] at hF
    refine wp_exit ?_
    refine hK24 _ _ ?_
    clear hK24
    refine wp_seq_k ?_; intro K29 hK29
    refine reg hF hS (sq rfl (q_move rfl) <|
      sq rfl (q_fieldAddr ty29 rfl rfl (s' := 0) kQ) <|
      sq rfl (q_ld_blk1 ty22 0 rfl rfl rfl rfl) <|
      sq rfl (q_move rfl) <|
      sq rfl (q_idx_sl ty22 ty3 hsF rfl rfl (by omega)) <|
      sq rfl (q_ld_I ty3 hsF (.inr (by simp)) rfl rfl (by omega)) <|
      sq rfl (q_call fn31 rfl (fun w hS => inl_ct _ _ _ w (Sl.mono (hS.le (.inr (by simp))) hzH)) (fun _ _ _ h => h)) <|
      sq rfl (q_assign rfl) <|
      sq_end) ?_
    clear hF hS; intro a w hF hS
    refine hK29 _ _ ?_
    clear hK29
    refine wp_seq_k ?_; intro K30 hK30
    refine regl ?_
    refine wpl_sq hF hS (sq rfl (q_move rfl) <|
      sq rfl (q_move rfl) <|
      sq_end) ?_
    clear hF hS; intro a w hF hS
    refine wpl_andG (q := ((M.getD i.toNat false || (G.all fun y => !Gu.wi y (xs.getD i.toNat 0))) || !xb.getD i.toNat false)) 151 15 hF hS rfl (by rfl) rfl (fun _ => sq_skip 151 rfl rfl rfl rfl <|
      sq_skip 151 rfl rfl rfl rfl <|
      sq_skip 151 rfl rfl rfl rfl <|
      sq_skip 151 rfl rfl rfl rfl <|
      sq_skip 151 rfl rfl rfl rfl <|
      sq_skipu 156 rfl rfl rfl <|
      sq_skip 151 rfl rfl rfl rfl <|
      sq_skip 151 rfl rfl rfl rfl <|
      sq_skipu 159 rfl rfl rfl <|
      sq_skipu 159 rfl rfl rfl <|
      sq_skipu 159 rfl rfl rfl <|
      sq_skipu 159 rfl rfl rfl <|
      sq_skipu 159 rfl rfl rfl <|
      sq_skipu 159 rfl rfl rfl <|
      sq_skip 151 rfl rfl rfl rfl <|
      sq_end) rfl (fun hg a w hF hS KG => ?_) ?_
    ·have hg := (by first | exact of_decide_eq_true hg | exact hg)
     refine wpl_sq hF hS (sq_go 151 rfl rfl rfl (q_move rfl) <|
       sq_go 151 rfl rfl rfl (q_move rfl) <|
       sq_go 151 rfl rfl rfl (q_idx_sl ty23 ty4 hz5 rfl rfl (by omega)) <|
       sq_go 151 rfl rfl rfl (q_ld_T ty4 hz5 (.inr (by simp)) rfl rfl (by omega)) <|
       sq_go 151 rfl rfl rfl (q_move rfl) <|
       sq_end) ?_
     clear hF hS; intro a w hF hS
     refine wpl_orP 6 156 1 1 151 hF hS rfl rfl rfl rfl rfl rfl rfl (fun hg2 => have hg2 := hg2; sq_go 156 rfl rfl rfl (q_move rfl) <|
       sq_end) rfl rfl ?_
     clear hF hS; intro a w hF hS
     refine wpl_sq hF hS (sq_go 151 rfl rfl rfl (q_move rfl) <|
       sq_end) ?_
     clear hF hS; intro a w hF hS
     refine wpl_orP 9 159 6 1 151 hF hS rfl rfl rfl rfl rfl rfl rfl (fun hg2 => have hg2 := hg2; sq_go 159 rfl rfl rfl (q_fieldAddr ty29 rfl rfl (s' := 0) kQ) <|
       sq_go 159 rfl rfl rfl (q_ld_blk1 ty23 0 rfl rfl rfl rfl) <|
       sq_go 159 rfl rfl rfl (q_move rfl) <|
       sq_go 159 rfl rfl rfl (q_idx_sl ty23 ty4 hbF rfl rfl (by omega)) <|
       sq_go 159 rfl rfl rfl (q_ld_T ty4 hbF (.inr (by simp)) rfl rfl (by omega)) <|
       sq_go 159 rfl rfl rfl (q_not rfl) <|
       sq_end) rfl rfl ?_
     clear hF hS; intro a w hF hS
     refine wpl_sq hF hS (sq rfl (q_pick_t rfl rfl) <|
       sq_end) ?_
     clear hF hS; intro a w hF hS
     exact KG _ _ (hF.under 8 rfl rfl) hS
    clear hF hS; intro a w hF hS
    refine wpl_sq hF hS (sq rfl (q_move rfl) <|
      sq_end) ?_
    clear hF hS; intro a w hF hS
    refine wpl_orG (q := (((xb.getD i.toNat false && !M.getD i.toNat false) && !decide ((xs.getD i.toNat 0) ∈ H)) && !(G.all fun y => !Gu.wi y (xs.getD i.toNat 0)))) 168 20 hF hS rfl (by rfl) rfl (fun _ => sq_skip 168 rfl rfl rfl rfl <|
      sq_skip 168 rfl rfl rfl rfl <|
      sq_skip 168 rfl rfl rfl rfl <|
      sq_skip 168 rfl rfl rfl rfl <|
      sq_skip 168 rfl rfl rfl rfl <|
      sq_skip 168 rfl rfl rfl rfl <|
      sq_skipu 174 rfl rfl rfl <|
      sq_skipu 174 rfl rfl rfl <|
      sq_skipu 174 rfl rfl rfl <|
      sq_skipu 174 rfl rfl rfl <|
      sq_skipu 174 rfl rfl rfl <|
      sq_skip 168 rfl rfl rfl rfl <|
      sq_skip 168 rfl rfl rfl rfl <|
      sq_skipu 181 rfl rfl rfl <|
      sq_skipu 181 rfl rfl rfl <|
      sq_skip 168 rfl rfl rfl rfl <|
      sq_skip 168 rfl rfl rfl rfl <|
      sq_skipu 185 rfl rfl rfl <|
      sq_skipu 185 rfl rfl rfl <|
      sq_skip 168 rfl rfl rfl rfl <|
      sq_end) rfl (fun hg a w hF hS KG => ?_) ?_
    ·have hg := hg
     refine wpl_sq hF hS (sq_go 168 rfl rfl rfl (q_fieldAddr ty29 rfl rfl (s' := 0) kQ) <|
       sq_go 168 rfl rfl rfl (q_ld_blk1 ty23 0 rfl rfl rfl rfl) <|
       sq_go 168 rfl rfl rfl (q_move rfl) <|
       sq_go 168 rfl rfl rfl (q_idx_sl ty23 ty4 hbF rfl rfl (by omega)) <|
       sq_go 168 rfl rfl rfl (q_ld_T ty4 hbF (.inr (by simp)) rfl rfl (by omega)) <|
       sq_go 168 rfl rfl rfl (q_move rfl) <|
       sq_end) ?_
     clear hF hS; intro a w hF hS
     refine wpl_andP 24 174 5 18 168 hF hS rfl rfl rfl rfl rfl rfl rfl (fun hg2 => have hg2 := hg2; sq_go 174 rfl rfl rfl (q_move rfl) <|
       sq_go 174 rfl rfl rfl (q_move rfl) <|
       sq_go 174 rfl rfl rfl (q_idx_sl ty23 ty4 hz5 rfl rfl (by omega)) <|
       sq_go 174 rfl rfl rfl (q_ld_T ty4 hz5 (.inr (by simp)) rfl rfl (by omega)) <|
       sq_go 174 rfl rfl rfl (q_not rfl) <|
       sq_end) rfl rfl ?_
     clear hF hS; intro a w hF hS
     refine wpl_sq hF hS (sq_go 168 rfl rfl rfl (q_move rfl) <|
       sq_end) ?_
     clear hF hS; intro a w hF hS
     refine wpl_andP 31 181 2 18 168 hF hS rfl rfl rfl rfl rfl rfl rfl (fun hg2 => have hg2 := hg2; sq_go 181 rfl rfl rfl (q_move rfl) <|
       sq_go 181 rfl rfl rfl (q_not rfl) <|
       sq_end) rfl rfl ?_
     clear hF hS; intro a w hF hS
     refine wpl_sq hF hS (sq_go 168 rfl rfl rfl (q_move rfl) <|
       sq_end) ?_
     clear hF hS; intro a w hF hS
     refine wpl_andP 35 185 2 18 168 hF hS rfl rfl rfl rfl rfl rfl rfl (fun hg2 => have hg2 := hg2; sq_go 185 rfl rfl rfl (q_move rfl) <|
       sq_go 185 rfl rfl rfl (q_not rfl) <|
       sq_end) rfl rfl ?_
     clear hF hS; intro a w hF hS
     refine wpl_sq hF hS (sq rfl (q_pick_f rfl rfl) <|
       sq_end) ?_
     clear hF hS; intro a w hF hS
     exact KG _ _ (hF.under 11 rfl rfl) hS
    clear hF hS; intro a w hF hS
    refine wpl_sq hF hS (sq rfl (q_move rfl) <|
      sq_end) ?_
    clear hF hS; intro a w hF hS
    refine wpl_orG (q := (M.getD i.toNat false && (G.all fun y => !Gu.wi y (xs.getD i.toNat 0)))) 190 7 hF hS rfl (by rfl) rfl (fun _ => sq_skip 190 rfl rfl rfl rfl <|
      sq_skip 190 rfl rfl rfl rfl <|
      sq_skip 190 rfl rfl rfl rfl <|
      sq_skip 190 rfl rfl rfl rfl <|
      sq_skip 190 rfl rfl rfl rfl <|
      sq_skipu 195 rfl rfl rfl <|
      sq_skip 190 rfl rfl rfl rfl <|
      sq_end) rfl (fun hg a w hF hS KG => ?_) ?_
    ·have hg := hg
     refine wpl_sq hF hS (sq_go 190 rfl rfl rfl (q_move rfl) <|
       sq_go 190 rfl rfl rfl (q_move rfl) <|
       sq_go 190 rfl rfl rfl (q_idx_sl ty23 ty4 hz5 rfl rfl (by omega)) <|
       sq_go 190 rfl rfl rfl (q_ld_T ty4 hz5 (.inr (by simp)) rfl rfl (by omega)) <|
       sq_go 190 rfl rfl rfl (q_move rfl) <|
       sq_end) ?_
     clear hF hS; intro a w hF hS
     refine wpl_andP 45 195 1 40 190 hF hS rfl rfl rfl rfl rfl rfl rfl (fun hg2 => have hg2 := hg2; sq_go 195 rfl rfl rfl (q_move rfl) <|
       sq_end) rfl rfl ?_
     clear hF hS; intro a w hF hS
     refine wpl_sq hF hS (sq rfl (q_pick_f rfl rfl) <|
       sq_end) ?_
     clear hF hS; intro a w hF hS
     exact KG _ _ (hF.under 6 rfl rfl) hS
    clear hF hS; intro a w hF hS
    refine wpList_nil ?_
    refine hK30 _ _ ?_
    clear hK30
    refine wp_if hF rfl (fun hc7 => ?_) (fun hc7 => ?_)
    ·(try simp only [Bool.or_eq_true, Bool.and_eq_true, Bool.or_eq_false_iff, Bool.and_eq_false_iff, decide_eq_true_eq, decide_eq_false_iff_not, Bool.not_eq_true', Bool.not_eq_false'] at hc7)
     have D1 : decide ((xs.getD i.toNat 0) ∈ H) = (xb.getD i.toNat false && !M.getD i.toNat false && !(G.all fun y => !Gu.wi y (xs.getD i.toNat 0))) := by rw [hH, Gu.hid_at hfam.1 hfit (by omega), ← hG, Gu.not_all]
     have D2 : M.getD i.toNat false = true → (G.all fun y => !Gu.wi y (xs.getD i.toNat 0)) = false := fun h => by have := Gu.all_bad hr9 (M := M) (i := i.toNat) (by omega) h; rw [← hGe, ← Gu.not_all, Bool.not_eq_true'] at this; exact this
     have D3 : M.getD i.toNat false = true → xb.getD i.toNat false = true := fun h => by have := Gu.fits_all hfit i.toNat; rw [h] at this; simpa using this
     have e9 : (((decide ((xs.getD i.toNat 0) ∈ H) && ((M.getD i.toNat false || (G.all fun y => !Gu.wi y (xs.getD i.toNat 0))) || !xb.getD i.toNat false)) || (((xb.getD i.toNat false && !M.getD i.toNat false) && !decide ((xs.getD i.toNat 0) ∈ H)) && !(G.all fun y => !Gu.wi y (xs.getD i.toNat 0)))) || (M.getD i.toNat false && (G.all fun y => !Gu.wi y (xs.getD i.toNat 0)))) = false := Gu.either_set D1 D2 D3
     have e8 : (((decide ((xs.getD i.toNat 0) ∈ H) && ((M.getD i.toNat false || (G.all fun y => !Gu.wi y (xs.getD i.toNat 0))) || !xb.getD i.toNat false)) || (((xb.getD i.toNat false && !M.getD i.toNat false) && !decide ((xs.getD i.toNat 0) ∈ H)) && !(G.all fun y => !Gu.wi y (xs.getD i.toNat 0)))) || (M.getD i.toNat false && (G.all fun y => !Gu.wi y (xs.getD i.toNat 0)))) = true := by simp only [Bool.or_eq_true, Bool.and_eq_true, Bool.or_eq_false_iff, Bool.and_eq_false_iff, decide_eq_true_eq, decide_eq_false_iff_not, Bool.not_eq_true', Bool.not_eq_false']; exact hc7
     rw [e9] at e8
     exact absurd e8 (by decide)
    ·(try simp only [Bool.or_eq_true, Bool.and_eq_true, Bool.or_eq_false_iff, Bool.and_eq_false_iff, decide_eq_true_eq, decide_eq_false_iff_not, Bool.not_eq_true', Bool.not_eq_false'] at hc7)
     refine wp_skip ?_
     refine hK22 _ _ ?_
     clear hK22
     refine reg hF hS (sq rfl (q_move rfl) <|
       sq rfl (q_addi rfl rfl (by omega)) <|
       sq rfl (q_assign rfl) <|
       sq_end) ?_
     clear hF hS; intro a w hF hS
     refine ⟨(i + 1), ?_, ?_, hF.sub ⟨rfl, rfl, rfl, rfl, rfl, rfl, trivial⟩, ?_⟩
     ·(try dsimp only); omega
     ·(try dsimp only); omega
     ·exact hS
  ·refine wp_exit ?_
   refine hK18 _ _ ?_
   clear hK18
   refine wp_seq_k ?_; intro K31 hK31
   refine wp_seq_k ?_; intro K32 hK32
   refine reg hF hS (sq rfl (q_assign rfl) <|
     sq_end) ?_
   clear hF hS; intro a w hF hS
   refine hK32 _ _ ?_
   clear hK32
   refine wp_block ?_
   obtain ⟨hs0, hhs0, hS⟩ : ∃ h, h = _ ∧ St _ _ h _ := ⟨_, rfl, hS⟩
   refine wp_loopx (γ := Int) (0) (fun (i : Int) => [(21, vi i)]) [(7, _), (8, _), (11, _), (15, _)] (fun (i : Int) => hs0) (fun (i : Int) => 0 ≤ i ∧ i ≤ T.length) (fun (i : Int) => (T.length - i).toNat) (hF.sub ⟨rfl, rfl, rfl, rfl, rfl, trivial⟩) (by subst hhs0; exact hS) (by exact ⟨Int.le_refl _, by omega⟩) ?_
   clear hF hS; rintro i a w hfact hF hS
   subst hhs0; (try dsimp only at hfact); (try dsimp only at hF); (try dsimp only at hS)
   obtain ⟨hi0, hi1⟩ := hfact
   replace hS : St _ [_, _, _, _, _] [_] _ := hS
   refine wp_seq_k ?_; intro K33 hK33
   refine wp_seq_k ?_; intro K34 hK34
   refine reg hF hS (sq rfl (q_move rfl) <|
     sq rfl (q_move rfl) <|
     sq rfl (q_len_sl ty43 hzT rfl) <|
     sq rfl (q_lti rfl rfl) <|
     sq_end) ?_
   clear hF hS; intro a w hF hS
   refine hK34 _ _ ?_
   clear hK34
   refine wp_ifd hF rfl (fun hc8 => ?_) (fun hc8 => ?_)
   ·obtain ⟨ht3, htl, htm, hta⟩ := Gu.tog_at hfam.1 hfit hT2 (i := i.toNat) (by omega)
    refine wp_skip ?_
    refine hK33 _ _ ?_
    clear hK33
    refine wp_seq_k ?_; intro K35 hK35
    refine wp_block ?_
    refine wp_seq_k ?_; intro K36 hK36
    refine reg hF hS (sq rfl (q_assign rfl) <|
      sq_end) ?_
    clear hF hS; intro a w hF hS
    refine hK36 _ _ ?_
    clear hK36
    refine wp_block ?_
    obtain ⟨hs0, hhs0, hS⟩ : ∃ h, h = _ ∧ St _ _ h _ := ⟨_, rfl, hS⟩
    refine wp_loopx (γ := Int) (1) (fun (j : Int) => [(22, vi j)]) [(7, _), (8, _), (11, _), (15, _), (21, _)] (fun (j : Int) => hs0) (fun (j : Int) => 1 ≤ j ∧ j ≤ (T.getD i.toNat []).length) (fun (j : Int) => ((T.getD i.toNat []).length - j).toNat) (hF.sub ⟨rfl, rfl, rfl, rfl, rfl, rfl, trivial⟩) (by subst hhs0; exact hS) (by exact ⟨Int.le_refl _, by omega⟩) ?_
    clear hF hS; rintro j a w hfact hF hS
    subst hhs0; (try dsimp only at hfact); (try dsimp only at hF); (try dsimp only at hS)
    obtain ⟨hj0, hj1⟩ := hfact
    replace hS : St _ [_, _, _, _, _] [_] _ := hS
    refine wp_seq_k ?_; intro K37 hK37
    refine wp_seq_k ?_; intro K38 hK38
    refine reg hF hS (sq rfl (q_move rfl) <|
      sq rfl (q_move rfl) <|
      sq rfl (q_move rfl) <|
      sq rfl (q_idx_sl ty43 ty22 hzT rfl rfl (by omega)) <|
      sq rfl (q_ld_Sl ty22 hzT (.inr (by simp)) rfl rfl (by omega)) <|
      sq rfl (q_len_sl ty22 (elemV_sl hzT (by omega)) rfl) <|
      sq rfl (q_lti rfl rfl) <|
      sq_end) ?_
    clear hF hS; intro a w hF hS
    refine hK38 _ _ ?_
    clear hK38
    refine wp_ifd hF rfl (fun hc9 => ?_) (fun hc9 => ?_)
    ·obtain ⟨hk0, hk1, hk2, hk3⟩ := hta j.toNat (by omega) (by omega)
     refine wp_skip ?_
     refine hK37 _ _ ?_
     clear hK37
     refine wp_seq_k ?_; intro K39 hK39
     refine wp_block ?_
     refine wp_seq_k ?_; intro K40 hK40
     refine regd mixed kQ hF hS (sq rfl (q_ld_blkW ty29 0 rfl rfl bQ rfl) <|
       sq rfl (q_move rfl) <|
       sq rfl (q_move rfl) <|
       sq rfl (q_idx_sl ty43 ty22 hzT rfl rfl (by omega)) <|
       sq rfl (q_ld_Sl ty22 hzT (.inr (by simp)) rfl rfl (by omega)) <|
       sq rfl (q_move rfl) <|
       sq rfl (q_idx_sl ty22 ty3 (elemV_sl hzT (by omega)) rfl rfl (by omega)) <|
       sq rfl (q_ld_I ty3 (elemV_sl hzT (by omega)) (.inr (by simp)) rfl rfl (by omega)) <|
       sq rfl (q_call fn32 rfl (fun w hS => rix_ct _ _ _ _ _ _ w (sl_one' hnF) (Sl.mono (hS.le (.inr (by simp))) hsF) (Sl.mono (hS.le (.inr (by simp))) hbF)) (fun _ _ _ h => h)) <|
       sq rfl (q_assign rfl) <|
       sq_end) ?_
     clear hF hS; intro a w hF hS
     refine hK40 _ _ ?_
     clear hK40
     refine wp_seq_k ?_; intro K41 hK41
     refine wp_seq_k ?_; intro K42 hK42
     refine reg hF hS (sq rfl (q_move rfl) <|
       sq rfl (q_df (q_lti rfl rfl) (by omega)) <|
       sq rfl (q_move rfl) <|
       sq_go 225 rfl rfl rfl (q_move rfl) <|
       sq_go 225 rfl rfl rfl (q_move rfl) <|
       sq_go 225 rfl rfl rfl (q_idx_sl ty43 ty22 hzT rfl rfl (by omega)) <|
       sq_go 225 rfl rfl rfl (q_ld_Sl ty22 hzT (.inr (by simp)) rfl rfl (by omega)) <|
       sq_go 225 rfl rfl rfl (q_len_sl ty22 (elemV_sl hzT (by omega)) rfl) <|
       sq_go 225 rfl rfl rfl (q_df (q_lti rfl rfl) (by omega)) <|
       sq rfl (q_pick_f rfl rfl) <|
       sq rfl (q_move rfl) <|
       sq_go 233 rfl rfl rfl (q_move rfl) <|
       sq_go 233 rfl rfl rfl (q_move rfl) <|
       sq_go 233 rfl rfl rfl (q_move rfl) <|
       sq_go 233 rfl rfl rfl (q_idx_sl ty43 ty22 hzT rfl rfl (by omega)) <|
       sq_go 233 rfl rfl rfl (q_ld_Sl ty22 hzT (.inr (by simp)) rfl rfl (by omega)) <|
       sq_go 233 rfl rfl rfl (q_idx_sl ty22 ty3 (elemV_sl hzT (by omega)) rfl rfl (by omega)) <|
       sq_go 233 rfl rfl rfl (q_ld_I ty3 (elemV_sl hzT (by omega)) (.inr (by simp)) rfl rfl (by omega)) <|
       sq_go 233 rfl rfl rfl (q_dt (q_call fn31 rfl (fun w hS => inl_ct _ _ _ w (Sl.mono (hS.le (.inr (by simp))) hzG)) (fun _ _ _ h => h)) (hG ▸ htm)) <|
       sq_go 233 rfl rfl rfl (q_not rfl) <|
       sq rfl (q_pick_f rfl rfl) <|
       sq_end) ?_
     clear hF hS; intro a w hF hS
     refine hK42 _ _ ?_
     clear hK42
     refine wp_if hF rfl (fun h => absurd h (by simp)) (fun _ => ?_)
     refine wp_skip ?_
     refine hK41 _ _ ?_
     clear hK41
     refine wp_seq_k ?_; intro K43 hK43
     refine reg hF hS (sq rfl (q_move rfl) <|
       sq rfl (q_move rfl) <|
       sq rfl (q_idx_sl ty23 ty4 hz5 rfl rfl (by omega)) <|
       sq rfl (q_bf (q_ld_T ty4 hz5 (.inr (by simp)) rfl rfl (by omega)) (hk2)) <|
       sq rfl (q_move rfl) <|
       sq_go 248 rfl rfl rfl (q_fieldAddr ty29 rfl rfl (s' := 0) kQ) <|
       sq_go 248 rfl rfl rfl (q_ld_blk1 ty23 0 rfl rfl rfl rfl) <|
       sq_go 248 rfl rfl rfl (q_move rfl) <|
       sq_go 248 rfl rfl rfl (q_idx_sl ty23 ty4 hbF rfl rfl (by omega)) <|
       sq_go 248 rfl rfl rfl (q_ld_T ty4 hbF (.inr (by simp)) rfl rfl (by omega)) <|
       sq_go 248 rfl rfl rfl (q_bf (q_not rfl) (by rw [hk3]; rfl)) <|
       sq rfl (q_pick_f rfl rfl) <|
       sq_end) ?_
     clear hF hS; intro a w hF hS
     refine hK43 _ _ ?_
     clear hK43
     refine wp_if hF rfl (fun h => absurd h (by simp)) (fun _ => ?_)
     refine wp_skip ?_
     refine hK39 _ _ ?_
     clear hK39
     refine reg hF hS (sq rfl (q_move rfl) <|
       sq rfl (q_addi rfl rfl (by omega)) <|
       sq rfl (q_assign rfl) <|
       sq_end) ?_
     clear hF hS; intro a w hF hS
     refine ⟨(j + 1), ?_, ?_, hF.sub ⟨rfl, rfl, rfl, rfl, rfl, rfl, trivial⟩, ?_⟩
     ·(try dsimp only); omega
     ·(try dsimp only); omega
     ·exact hS
    ·refine wp_exit ?_
     refine hK35 _ _ ?_
     clear hK35
     refine reg hF hS (sq rfl (q_move rfl) <|
       sq rfl (q_addi rfl rfl (by omega)) <|
       sq rfl (q_assign rfl) <|
       sq_end) ?_
     clear hF hS; intro a w hF hS
     refine ⟨(i + 1), ?_, ?_, hF.sub ⟨rfl, rfl, rfl, rfl, rfl, trivial⟩, ?_⟩
     ·(try dsimp only); omega
     ·(try dsimp only); omega
     ·exact hS
   ·refine wp_exit ?_
    refine hK31 _ _ ?_
    clear hK31
    refine wp_seq_k ?_; intro K44 hK44
    refine reg hF hS (sq rfl (q_call fn19 rfl (fun w hS => lives_ct w ) (fun _ _ _ h => h)) <|
      sq rfl (q_assign rfl) <|
      sq_end) ?_
    clear hF hS; intro a w hF hS
    refine hK44 _ _ ?_
    clear hK44
    refine wp_ret ?_
    exact fn_ret (rs := [.tmp 6]) rfl hF hS (vs := [_]) ⟨rfl, trivial⟩ zQ zQ (rfl)
end Go.Proofs.Ytcbjemjohacbpaa
