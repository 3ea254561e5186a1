/- A text of a proof over this seat: walks over the program's functions and the plain laws that they need. -/
import Derived.Test.YtefjpigmgmbghaaHu13
import Derived.Test.YtefjpigmgmbghaaHpA
import Derived.Test.YtefjpigmgmbghaaFwD
import Derived.Test.YtefjpigmgmbghaaFwB
set_option linter.all false
namespace Go.Proofs.Ytefjpigmgmbghaa
open Go.Fw
theorem fn65 : FnOk Try.prog 65 := ⟨_, Try.func65, rfl, by kernel_rfl⟩

set_option maxRecDepth 4000 in
set_option maxHeartbeats 2000000 in
theorem rfound_ct (xN xS xB : Value) (xs : List Int) (xb : List Bool) (kV mV : Value) (ks : List (List UInt8)) (ms : List Int) (hl : xs.length < 1048576) (w : World) (hxn : xN.oneCell' = true) (hxs : Sl encI (ph w) xS xs) (hxb : Sl encT (ph w) xB xb) (hk : Sl (encA 16) (ph w) kV ks) (hm : Sl encI (ph w) mV ms) : Ct Try.prog 33 [.agg [xN, xS, xB].toArray, .agg [kV, mV].toArray] w (SlE encI (Hu.fndL xs xb ks ms) (Hu.kE xs xb ks ms)) := by
 refine fn_enter Try.func33 rfl Try.ntmps33 (Nat.le_of_ble_eq_true rfl) fun a hF hS => ?_
 have hsl := hxs.1
 have htl := hxb.1
 have hml := hm.1
 have hkl := hk.1
 refine wp_seq_k ?_; intro K1 hK1
 refine regl ?_
 refine wpl_ef hF hS rfl (ef_boxA rfl) ?_
 clear hF hS; rintro _ _ _ a w ⟨b1, rfl, rfl, rfl⟩ hF hS
 refine wpl_ef hF hS rfl (ef_boxA rfl) ?_
 clear hF hS; rintro _ _ _ a w ⟨b2, rfl, rfl, rfl⟩ hF hS
 refine wpl_sq hF hS (sq rfl (q_assign rfl) <|
   sq rfl (q_assign rfl) <|
   sq_end) ?_
 clear hF hS; intro a w hF hS
 refine wpList_nil ?_
 refine hK1 _ _ ?_
 clear hK1
 refine wp_seq_k ?_; intro K2 hK2
 refine wp_seq_k ?_; intro K3 hK3
 refine reg hF hS (sq rfl (q_ld_blkW ty26 1 rfl rfl bQ rfl) <|
   sq rfl (q_ld_blkW ty31 0 rfl rfl bQ rfl) <|
   sq rfl (q_call fn57 rfl (fun w hS => rfits_ct _ _ _ _ _ _ _ _ _ w hxn (Sl.mono (hS.le zin0) hxs) (Sl.mono (hS.le zin0) hxb) (Sl.mono (hS.le zin0) hk) (Sl.mono (hS.le zin0) hm)) (fun _ _ _ h => h)) <|
   sq rfl (q_not rfl) <|
   sq_end) ?_
 clear hF hS; intro a w hF hS
 refine hK3 _ _ ?_
 clear hK3
 refine wp_if hF rfl (fun hc1 => ?_) (fun hc1 => ?_)
 ·have hft : Hu.fitB xs xb ks ms = false := by simpa using hc1
  refine wp_seq_k ?_; intro K4 hK4
  refine reg hF hS (sq rfl (q_assign rfl) <|
    sq rfl (q_assign rfl) <|
    sq_end) ?_
  clear hF hS; intro a w hF hS
  refine hK4 _ _ ?_
  clear hK4
  refine wp_ret ?_
  replace hS := hS.zone00
  exact fn_ret (rs := [.tmp 4, .tmp 5]) rfl hF hS (vs := [_, _]) ⟨rfl, rfl, trivial⟩ (zs' := [_]) (hs' := []) (List.singleton_sublist.2 (by simp)) zQ (se_of ⟨_, _, (sl_nil (z := fun _ => none)), rfl, rfl, rfl⟩ (by unfold Hu.fndL; rw [hft]; rfl) ((Hu.kE_f hft).symm))
 ·have hft : Hu.fitB xs xb ks ms = true := by simpa using hc1
  have hfu := Hu.fit_use hft
  refine wp_skip ?_
  refine hK2 _ _ ?_
  clear hK2
  refine wp_seq_k ?_; intro K5 hK5
  refine reg hF hS (sq rfl (q_assign rfl) <|
    sq_end) ?_
  clear hF hS; intro a w hF hS
  replace hS := hS.nilRow 3 1
  refine hK5 _ _ ?_
  clear hK5
  refine wp_seq_k ?_; intro K6 hK6
  refine wp_seq_k ?_; intro K7 hK7
  refine reg hF hS (sq rfl (q_assign rfl) <|
    sq_end) ?_
  clear hF hS; intro a w hF hS
  refine hK7 _ _ ?_
  clear hK7
  refine wp_block ?_
  obtain ⟨hs0, hhs0, hS⟩ : ∃ h, h = _ ∧ St _ _ h _ := ⟨_, rfl, hS⟩
  refine wp_loopx (γ := Value × Int) ((Value.slice none 0 0), 0) (fun (gg : Value × Int) => match gg with | (u, i) => [(6, u), (7, vi i)]) [(2, _), (3, _)] (fun (gg : Value × Int) => match gg with | (u, i) => (hs0.set 0 (.row u 3 1 (Hu.fdL xs xb ms i.toNat).length ((Hu.fdL xs xb ms i.toNat).map vi)))) (fun (gg : Value × Int) => match gg with | (u, i) => 0 ≤ i ∧ i ≤ xs.length) (fun (gg : Value × Int) => match gg with | (u, i) => (xs.length - i).toNat) (hF.sub ⟨rfl, rfl, rfl, rfl, trivial⟩) (by subst hhs0; exact hS) (by exact ⟨Int.le_refl _, by omega⟩) ?_
  clear hF hS; rintro ⟨u, i⟩ a w hfact hF hS
  subst hhs0; (try dsimp only at hfact); (try dsimp only at hF); (try dsimp only at hS)
  obtain ⟨hi0, hi1⟩ := hfact
  replace hS : St _ [] [_, _, _] _ := hS
  have hfl9 := Hu.fdL_len xs xb ms i.toNat
  refine wp_seq_k ?_; intro K8 hK8
  refine wp_seq_k ?_; intro K9 hK9
  refine reg hF hS (sq rfl (q_move rfl) <|
    sq rfl (q_fieldAddr ty26 rfl rfl (s' := 0) kQ) <|
    sq rfl (q_ld_blk1 ty22 2 rfl rfl rfl rfl) <|
    sq rfl (q_len_sl ty22 hxs rfl) <|
    sq rfl (q_lti rfl rfl) <|
    sq_end) ?_
  clear hF hS; intro a w hF hS
  refine hK9 _ _ ?_
  clear hK9
  refine wp_ifd hF rfl (fun hc2 => ?_) (fun hc2 => ?_)
  ·refine wp_skip ?_
   refine hK8 _ _ ?_
   clear hK8
   refine wp_seq_k ?_; intro K10 hK10
   refine wp_block ?_
   refine wp_seq_k ?_; intro K11 hK11
   refine reg hF hS (sq rfl (q_fieldAddr ty31 rfl rfl (s' := 0) kQ) <|
     sq rfl (q_ld_blk1 ty22 1 rfl rfl rfl rfl) <|
     sq rfl (q_move rfl) <|
     sq rfl (q_idx_sl ty22 ty3 hm rfl rfl (by omega)) <|
     sq rfl (q_ld_I ty3 hm zin0 rfl rfl (by omega)) <|
     sq rfl (q_eqi rfl rfl) <|
     sq rfl (q_assign rfl) <|
     sq_end) ?_
   clear hF hS; intro a w hF hS
   refine hK11 _ _ ?_
   clear hK11
   refine wp_seq_k ?_; intro K12 hK12
   refine wp_seq_k ?_; intro K13 hK13
   refine reg hF hS (sq rfl (q_assign rfl) <|
     sq_end) ?_
   clear hF hS; intro a w hF hS
   refine hK13 _ _ ?_
   clear hK13
   refine wp_block ?_
   obtain ⟨hs0, hhs0, hS⟩ : ∃ h, h = _ ∧ St _ _ h _ := ⟨_, rfl, hS⟩
   refine wp_loopx (γ := Int) (0) (fun (j : Int) => [(8, .bool (Hu.fdk xs xb ms i.toNat j.toNat)), (9, vi j)]) [(2, _), (3, _), (6, _), (7, _)] (fun (j : Int) => hs0) (fun (j : Int) => 0 ≤ j ∧ j ≤ xs.length) (fun (j : Int) => (xs.length - j).toNat) (hF.sub ⟨(by show some _ = some _; rw [show (0 : Int).toNat = 0 from rfl, Hu.fdk_0]), rfl, rfl, rfl, rfl, rfl, trivial⟩) (by subst hhs0; exact hS) (by exact ⟨Int.le_refl _, by omega⟩) ?_
   clear hF hS; rintro j a w hfact hF hS
   subst hhs0; (try dsimp only at hfact); (try dsimp only at hF); (try dsimp only at hS)
   obtain ⟨hj0, hj1⟩ := hfact
   replace hS : St _ [] [_, _, _] _ := hS
   refine wp_seq_k ?_; intro K14 hK14
   refine wp_seq_k ?_; intro K15 hK15
   refine reg hF hS (sq rfl (q_move rfl) <|
     sq rfl (q_fieldAddr ty26 rfl rfl (s' := 0) kQ) <|
     sq rfl (q_ld_blk1 ty22 2 rfl rfl rfl rfl) <|
     sq rfl (q_len_sl ty22 hxs rfl) <|
     sq rfl (q_lti rfl rfl) <|
     sq_end) ?_
   clear hF hS; intro a w hF hS
   refine hK15 _ _ ?_
   clear hK15
   refine wp_ifd hF rfl (fun hc3 => ?_) (fun hc3 => ?_)
   ·refine wp_skip ?_
    refine hK14 _ _ ?_
    clear hK14
    refine wp_seq_k ?_; intro K16 hK16
    refine wp_block ?_
    refine regq mixed kQ hS ?_
    refine wpq_seg hF (sq rfl (q_move rfl) <|
      sq rfl (q_move rfl) <|
      sq_end) ?_
    clear hF; intro a hF
    refine wpq_andG (q := (Hu.rfd xs xb ms (xs.getD i.toNat 0) j.toNat)) 35 28 hF rfl (by rfl) rfl (by exact trivial) (fun _ => sq_skip 35 rfl rfl rfl rfl <|
      sq_skip 35 rfl rfl rfl rfl <|
      sq_skip 35 rfl rfl rfl rfl <|
      sq_skip 35 rfl rfl rfl rfl <|
      sq_skip 35 rfl rfl rfl rfl <|
      sq_skip 35 rfl rfl rfl rfl <|
      sq_skip 35 rfl rfl rfl rfl <|
      sq_skipu 42 rfl rfl rfl <|
      sq_skipu 42 rfl rfl rfl <|
      sq_skipu 42 rfl rfl rfl <|
      sq_skipu 42 rfl rfl rfl <|
      sq_skipu 42 rfl rfl rfl <|
      sq_skipu 42 rfl rfl rfl <|
      sq_skipu 42 rfl rfl rfl <|
      sq_skipu 42 rfl rfl rfl <|
      sq_skipu 42 rfl rfl rfl <|
      sq_skipu 42 rfl rfl rfl <|
      sq_skipu 42 rfl rfl rfl <|
      sq_skipu 42 rfl rfl rfl <|
      sq_skip 35 rfl rfl rfl rfl <|
      sq_skip 35 rfl rfl rfl rfl <|
      sq_skipu 56 rfl rfl rfl <|
      sq_skipu 56 rfl rfl rfl <|
      sq_skipu 56 rfl rfl rfl <|
      sq_skipu 56 rfl rfl rfl <|
      sq_skipu 56 rfl rfl rfl <|
      sq_skipu 56 rfl rfl rfl <|
      sq_skip 35 rfl rfl rfl rfl <|
      sq_end) rfl (fun hg a hF KG => ?_) ?_
    ·have hg := hg
     refine wpq_seg hF (sq_go 35 rfl rfl rfl (q_fieldAddr ty26 rfl rfl (s' := 0) kQ) <|
       sq_go 35 rfl rfl rfl (q_ld_blk1 ty24 2 rfl rfl rfl rfl) <|
       sq_go 35 rfl rfl rfl (q_move rfl) <|
       sq_go 35 rfl rfl rfl (q_idx_sl ty24 ty4 hxb rfl rfl (by omega)) <|
       sq_go 35 rfl rfl rfl (q_ld_T ty4 hxb zin0 rfl rfl (by omega)) <|
       sq_go 35 rfl rfl rfl (q_not rfl) <|
       sq_go 35 rfl rfl rfl (q_move rfl) <|
       sq_end) ?_
     clear hF; intro a hF
     refine wpq_orP 8 42 12 1 35 hF rfl rfl rfl rfl rfl rfl rfl (fun hg => have hg := hg; sq_go 42 rfl rfl rfl (q_fieldAddr ty26 rfl rfl (s' := 0) kQ) <|
       sq_go 42 rfl rfl rfl (q_ld_blk1 ty22 2 rfl rfl rfl rfl) <|
       sq_go 42 rfl rfl rfl (q_move rfl) <|
       sq_go 42 rfl rfl rfl (q_idx_sl ty22 ty3 hxs rfl rfl (by omega)) <|
       sq_go 42 rfl rfl rfl (q_ld_I ty3 hxs zin0 rfl rfl (by omega)) <|
       sq_go 42 rfl rfl rfl (q_fieldAddr ty26 rfl rfl (s' := 0) kQ) <|
       sq_go 42 rfl rfl rfl (q_ld_blk1 ty22 2 rfl rfl rfl rfl) <|
       sq_go 42 rfl rfl rfl (q_move rfl) <|
       sq_go 42 rfl rfl rfl (q_idx_sl ty22 ty3 hxs rfl rfl (by omega)) <|
       sq_go 42 rfl rfl rfl (q_ld_I ty3 hxs zin0 rfl rfl (by omega)) <|
       sq_go 42 rfl rfl rfl (q_call fn67 rfl (fun w hS => rbelow_ct _ _ w ) (fun _ _ _ h => h)) <|
       sq_go 42 rfl rfl rfl (q_not rfl) <|
       sq_end) rfl rfl ?_
     clear hF; intro a hF
     refine wpq_seg hF (sq_go 35 rfl rfl rfl (q_move rfl) <|
       sq_end) ?_
     clear hF; intro a hF
     refine wpq_orP 22 56 6 1 35 hF rfl rfl rfl rfl rfl rfl rfl (fun hg => have hg := hg; sq_go 56 rfl rfl rfl (q_fieldAddr ty31 rfl rfl (s' := 0) kQ) <|
       sq_go 56 rfl rfl rfl (q_ld_blk1 ty22 1 rfl rfl rfl rfl) <|
       sq_go 56 rfl rfl rfl (q_move rfl) <|
       sq_go 56 rfl rfl rfl (q_idx_sl ty22 ty3 hm rfl rfl (by omega)) <|
       sq_go 56 rfl rfl rfl (q_ld_I ty3 hm zin0 rfl rfl (by omega)) <|
       sq_go 56 rfl rfl rfl (q_eqi rfl rfl) <|
       sq_end) rfl rfl ?_
     clear hF; intro a hF
     refine wpq_seg hF (sq rfl (q_pick_t rfl rfl) <|
       sq_end) ?_
     clear hF; intro a hF
     exact KG _ (hF.under 10 rfl rfl)
    clear hF; intro a hF
    refine wpq_seg hF (sq rfl (q_assign rfl) <|
      sq_end) ?_
    clear hF; intro a hF
    refine wpq_nil ?_
    clear hS; intro w hS
    refine hK16 _ _ ?_
    clear hK16
    refine reg hF hS (sq rfl (q_move rfl) <|
      sq rfl (q_addi rfl rfl (by omega)) <|
      sq rfl (q_assign rfl) <|
      sq_end) ?_
    clear hF hS; intro a w hF hS
    refine ⟨(j + 1), ?_, ?_, hF.sub ⟨(by show some _ = some _; rw [show (j + 1).toNat = j.toNat + 1 by omega, Hu.fdk_succ, ← Hu.rfd_eq]), rfl, rfl, rfl, rfl, rfl, trivial⟩, ?_⟩
    ·(try dsimp only); omega
    ·(try dsimp only); omega
    ·exact hS
   ·obtain rfl : j = xs.length := by omega
    rw [Int.toNat_natCast] at hF
    refine wp_exit ?_
    refine hK12 _ _ ?_
    clear hK12
    refine wp_seq_k ?_; intro K17 hK17
    refine reg hF hS (sq rfl (q_move rfl) <|
      sq_end) ?_
    clear hF hS; intro a w hF hS
    refine hK17 _ _ ?_
    clear hK17
    refine wp_if hF rfl (fun hc4 => ?_) (fun hc4 => ?_)
    ·refine regl ?_
     refine wpl_sq hF hS (sq rfl (q_move rfl) <|
       sq rfl (q_fieldAddr ty26 rfl rfl (s' := 0) kQ) <|
       sq rfl (q_ld_blk1 ty22 2 rfl rfl rfl rfl) <|
       sq rfl (q_move rfl) <|
       sq rfl (q_idx_sl ty22 ty3 hxs rfl rfl (by omega)) <|
       sq rfl (q_ld_I ty3 hxs zin0 rfl rfl (by omega)) <|
       sq_end) ?_
     clear hF hS; intro a w hF hS
     refine wpl_ef hF hS rfl (ef_bsliceA ty22 ty3 rfl rfl oQ (by decide) rfl rfl) ?_
     clear hF hS; rintro v4 _ _ a w ⟨rfl, rfl⟩ hF hS
     replace hS : St _ [] [_, _, _, _] _ := hS
     refine wpl_ef hF hS rfl (ef_append ty22 ty3 1 rfl rfl rfl (src_row ty22 (k := 0) rfl oQ) bQ rfl (by decide)) ?_
     clear hF hS; rintro v6 _ _ a w ⟨rfl, rfl⟩ hF hS
     replace hS : St _ [] [_, _, _, _] _ := hS
     refine wpl_sq hF hS (sq rfl (q_assign rfl) <|
       sq_end) ?_
     clear hF hS; intro a w hF hS
     refine wpList_nil ?_
     refine hK10 _ _ ?_
     clear hK10
     refine reg hF hS (sq rfl (q_move rfl) <|
       sq rfl (q_addi rfl rfl (by omega)) <|
       sq rfl (q_assign rfl) <|
       sq_end) ?_
     clear hF hS; intro a w hF hS
     replace hS := hS.keep zQ (sQ.n)
     refine ⟨(v6, i + 1), ?_, ?_, hF.sub ⟨rfl, rfl, rfl, rfl, trivial⟩, ?_⟩
     ·(try dsimp only); omega
     ·(try dsimp only); omega
     ·dsimp only; rw [Hu.fdL_t hi0 hc4, List.length_append, List.map_append]; exact hS
    ·refine wp_skip ?_
     refine hK10 _ _ ?_
     clear hK10
     refine reg hF hS (sq rfl (q_move rfl) <|
       sq rfl (q_addi rfl rfl (by omega)) <|
       sq rfl (q_assign rfl) <|
       sq_end) ?_
     clear hF hS; intro a w hF hS
     refine ⟨(u, i + 1), ?_, ?_, hF.sub ⟨rfl, rfl, rfl, rfl, trivial⟩, ?_⟩
     ·(try dsimp only); omega
     ·(try dsimp only); omega
     ·dsimp only; rw [Hu.fdL_f hi0 hc4]; exact hS
  ·obtain rfl : i = xs.length := by omega
   rw [Int.toNat_natCast] at hS
   have hfl9 := Hu.fdL_len xs xb ms xs.length
   refine wp_exit ?_
   refine hK6 _ _ ?_
   clear hK6
   refine wp_seq_k ?_; intro K18 hK18
   refine reg hF hS (sq rfl (q_move rfl) <|
     sq rfl (q_assign rfl) <|
     sq rfl (q_assign rfl) <|
     sq_end) ?_
   clear hF hS; intro a w hF hS
   refine hK18 _ _ ?_
   clear hK18
   refine wp_ret ?_
   obtain ⟨zr, hzr, hS⟩ := St.freezeV (f := vi) (p := fun x => -9223372036854775808 ≤ x ∧ x ≤ 9223372036854775807) hS rfl (by first | omega | (simp; omega)) (fun x hx => sl_rng hxs x (Hu.fdL_mem _ (Nat.le_refl _) x hx))
   exact fn_ret (rs := [.tmp 4, .tmp 5]) rfl hF hS (vs := [_, _]) ⟨rfl, rfl, trivial⟩ (zs' := [_]) (hs' := []) (List.singleton_sublist.2 (by simp)) zQ (se_of ⟨_, _, hzr, rfl, rfl, rfl⟩ (by unfold Hu.fndL; rw [hft]; rfl) ((Hu.kE_t hft).symm))

set_option maxRecDepth 4000 in
set_option maxHeartbeats 2000000 in
theorem rnext_ct (xN xS xB : Value) (xs : List Int) (xb : List Bool) (kV mV : Value) (ks : List (List UInt8)) (ms : List Int) (hl : xs.length < 1048576) (w : World) (hxn : xN.oneCell' = true) (hxs : Sl encI (ph w) xS xs) (hxb : Sl encT (ph w) xB xb) (hk : Sl (encA 16) (ph w) kV ks) (hm : Sl encI (ph w) mV ms) : Ct Try.prog 29 [.agg [xN, xS, xB].toArray, .agg [kV, mV].toArray] w (fun r _ _ => r = .tuple #[vi (Hu.nxS xs xb ks ms), .bool (Hu.nxO xs xb ks ms), vi (Hu.kE xs xb ks ms)]) := by
 refine fn_enter Try.func29 rfl Try.ntmps29 (Nat.le_of_ble_eq_true rfl) fun a hF hS => ?_
 have hsl := hxs.1
 have htl := hxb.1
 have hml := hm.1
 have hkl := hk.1
 refine wp_seq_k ?_; intro K1 hK1
 refine regl ?_
 refine wpl_ef hF hS rfl (ef_boxA rfl) ?_
 clear hF hS; rintro _ _ _ a w ⟨b1, rfl, rfl, rfl⟩ hF hS
 refine wpl_ef hF hS rfl (ef_boxA rfl) ?_
 clear hF hS; rintro _ _ _ a w ⟨b2, rfl, rfl, rfl⟩ hF hS
 refine wpl_sq hF hS (sq rfl (q_assign rfl) <|
   sq rfl (q_assign rfl) <|
   sq rfl (q_assign rfl) <|
   sq_end) ?_
 clear hF hS; intro a w hF hS
 refine wpList_nil ?_
 refine hK1 _ _ ?_
 clear hK1
 refine wp_seq_k ?_; intro K2 hK2
 refine wp_seq_k ?_; intro K3 hK3
 refine reg hF hS (sq rfl (q_ld_blkW ty26 1 rfl rfl bQ rfl) <|
   sq rfl (q_ld_blkW ty31 0 rfl rfl bQ rfl) <|
   sq rfl (q_call fn57 rfl (fun w hS => rfits_ct _ _ _ _ _ _ _ _ _ w hxn (Sl.mono (hS.le zin0) hxs) (Sl.mono (hS.le zin0) hxb) (Sl.mono (hS.le zin0) hk) (Sl.mono (hS.le zin0) hm)) (fun _ _ _ h => h)) <|
   sq rfl (q_not rfl) <|
   sq_end) ?_
 clear hF hS; intro a w hF hS
 refine hK3 _ _ ?_
 clear hK3
 refine wp_if hF rfl (fun hc1 => ?_) (fun hc1 => ?_)
 ·have hft : Hu.fitB xs xb ks ms = false := by simpa using hc1
  refine wp_seq_k ?_; intro K4 hK4
  refine reg hF hS (sq rfl (q_assign rfl) <|
    sq rfl (q_assign rfl) <|
    sq rfl (q_assign rfl) <|
    sq_end) ?_
  clear hF hS; intro a w hF hS
  refine hK4 _ _ ?_
  clear hK4
  refine wp_ret ?_
  exact fn_ret (rs := [.tmp 4, .tmp 5, .tmp 6]) rfl hF hS (vs := [_, _, _]) ⟨rfl, rfl, rfl, trivial⟩ zQ zQ (Hu.nxT hft)
 ·have hft : Hu.fitB xs xb ks ms = true := by simpa using hc1
  have hfu := Hu.fit_use hft
  refine wp_skip ?_
  refine hK2 _ _ ?_
  clear hK2
  refine wp_seq_k ?_; intro K5 hK5
  refine wp_seq_k ?_; intro K6 hK6
  refine reg hF hS (sq rfl (q_assign rfl) <|
    sq_end) ?_
  clear hF hS; intro a w hF hS
  refine hK6 _ _ ?_
  clear hK6
  refine wp_block ?_
  obtain ⟨hs0, hhs0, hS⟩ : ∃ h, h = _ ∧ St _ _ h _ := ⟨_, rfl, hS⟩
  refine wp_loopx (γ := Int) (0) (fun (s : Int) => [(7, vi s)]) [(2, _), (3, _)] (fun (s : Int) => hs0) (fun (s : Int) => 0 ≤ s ∧ s ≤ 65 ∧ Hu.nxA xs xb ms s) (fun (s : Int) => (65 - s).toNat) (hF.sub ⟨rfl, rfl, rfl, trivial⟩) (by subst hhs0; exact hS) (by exact ⟨Int.le_refl _, by omega, Hu.nxA_0⟩) ?_
  clear hF hS; rintro s a w hfact hF hS
  subst hhs0; (try dsimp only at hfact); (try dsimp only at hF); (try dsimp only at hS)
  obtain ⟨hs0, hs1, hA9⟩ := hfact
  replace hS : St _ [] [_, _] _ := hS
  refine wp_seq_k ?_; intro K7 hK7
  refine wp_seq_k ?_; intro K8 hK8
  refine reg hF hS (sq rfl (q_move rfl) <|
    sq rfl (q_lei rfl rfl) <|
    sq_end) ?_
  clear hF hS; intro a w hF hS
  refine hK8 _ _ ?_
  clear hK8
  refine wp_ifd hF rfl (fun hc2 => ?_) (fun hc2 => ?_)
  ·refine wp_skip ?_
   refine hK7 _ _ ?_
   clear hK7
   refine wp_seq_k ?_; intro K9 hK9
   refine wp_block ?_
   refine wp_seq_k ?_; intro K10 hK10
   refine reg hF hS (sq rfl (q_assign rfl) <|
     sq_end) ?_
   clear hF hS; intro a w hF hS
   refine hK10 _ _ ?_
   clear hK10
   refine wp_block ?_
   obtain ⟨hs0, hhs0, hS⟩ : ∃ h, h = _ ∧ St _ _ h _ := ⟨_, rfl, hS⟩
   refine wp_loopx (γ := Int) (0) (fun (i : Int) => [(8, vi i)]) [(2, _), (3, _), (7, _)] (fun (i : Int) => hs0) (fun (i : Int) => 0 ≤ i ∧ i ≤ xs.length ∧ Hu.nxC xs xb ms s i.toNat) (fun (i : Int) => (xs.length - i).toNat) (hF.sub ⟨rfl, rfl, rfl, rfl, trivial⟩) (by subst hhs0; exact hS) (by exact ⟨Int.le_refl _, by omega, Hu.nxC_0 s⟩) ?_
   clear hF hS; rintro i a w hfact hF hS
   subst hhs0; (try dsimp only at hfact); (try dsimp only at hF); (try dsimp only at hS)
   obtain ⟨hi0, hi1, hC9⟩ := hfact
   replace hS : St _ [] [_, _] _ := hS
   refine wp_seq_k ?_; intro K11 hK11
   refine wp_seq_k ?_; intro K12 hK12
   refine reg hF hS (sq rfl (q_move rfl) <|
     sq rfl (q_fieldAddr ty26 rfl rfl (s' := 0) kQ) <|
     sq rfl (q_ld_blk1 ty22 1 rfl rfl rfl rfl) <|
     sq rfl (q_len_sl ty22 hxs rfl) <|
     sq rfl (q_lti rfl rfl) <|
     sq_end) ?_
   clear hF hS; intro a w hF hS
   refine hK12 _ _ ?_
   clear hK12
   refine wp_ifd hF rfl (fun hc3 => ?_) (fun hc3 => ?_)
   ·refine wp_skip ?_
    refine hK11 _ _ ?_
    clear hK11
    refine wp_seq_k ?_; intro K13 hK13
    refine wp_block ?_
    refine wp_seq_k ?_; intro K14 hK14
    refine regl ?_
    refine wpl_sq hF hS (sq rfl (q_fieldAddr ty26 rfl rfl (s' := 0) kQ) <|
      sq rfl (q_ld_blk1 ty24 1 rfl rfl rfl rfl) <|
      sq rfl (q_move rfl) <|
      sq rfl (q_idx_sl ty24 ty4 hxb rfl rfl (by omega)) <|
      sq rfl (q_ld_T ty4 hxb zin0 rfl rfl (by omega)) <|
      sq rfl (q_move rfl) <|
      sq_end) ?_
    clear hF hS; intro a w hF hS
    refine wpl_and 5 29 6 hF hS rfl rfl rfl rfl rfl (fun hg => have hg := hg; sq_go 29 rfl rfl rfl (q_fieldAddr ty31 rfl rfl (s' := 0) kQ) <|
      sq_go 29 rfl rfl rfl (q_ld_blk1 ty22 0 rfl rfl rfl rfl) <|
      sq_go 29 rfl rfl rfl (q_move rfl) <|
      sq_go 29 rfl rfl rfl (q_idx_sl ty22 ty3 hm rfl rfl (by omega)) <|
      sq_go 29 rfl rfl rfl (q_ld_I ty3 hm zin0 rfl rfl (by omega)) <|
      sq_go 29 rfl rfl rfl (q_eqi rfl rfl) <|
      sq_end) rfl rfl ?_
    clear hF hS; intro a w hF hS
    refine wpl_sq hF hS (sq rfl (q_move rfl) <|
      sq_end) ?_
    clear hF hS; intro a w hF hS
    refine wpl_and 13 37 8 hF hS rfl rfl rfl rfl rfl (fun hg => have hg := hg; sq_go 37 rfl rfl rfl (q_fieldAddr ty26 rfl rfl (s' := 0) kQ) <|
      sq_go 37 rfl rfl rfl (q_ld_blk1 ty22 1 rfl rfl rfl rfl) <|
      sq_go 37 rfl rfl rfl (q_move rfl) <|
      sq_go 37 rfl rfl rfl (q_idx_sl ty22 ty3 hxs rfl rfl (by omega)) <|
      sq_go 37 rfl rfl rfl (q_ld_I ty3 hxs zin0 rfl rfl (by omega)) <|
      sq_go 37 rfl rfl rfl (q_call fn64 rfl (fun w hS => size_ct _ w ) (fun _ _ _ h => h)) <|
      sq_go 37 rfl rfl rfl (q_move rfl) <|
      sq_go 37 rfl rfl rfl (q_eqi rfl rfl) <|
      sq_end) rfl rfl ?_
    clear hF hS; intro a w hF hS
    refine wpl_sq hF hS (sq rfl (q_move rfl) <|
      sq_end) ?_
    clear hF hS; intro a w hF hS
    refine wpl_and 23 47 5 hF hS rfl rfl rfl rfl rfl (fun hg => have hg := hg; sq_go 47 rfl rfl rfl (q_ld_blkW ty26 1 rfl rfl bQ rfl) <|
      sq_go 47 rfl rfl rfl (q_ld_blkW ty31 0 rfl rfl bQ rfl) <|
      sq_go 47 rfl rfl rfl (q_move rfl) <|
      sq_go 47 rfl rfl rfl (q_call fn65 rfl (fun w hS => rcov_ct _ _ _ _ _ _ _ _ _ _ (by omega) (by omega) (by omega) w hxn (Sl.mono (hS.le zin0) hxs) (Sl.mono (hS.le zin0) hxb) (Sl.mono (hS.le zin0) hk) (Sl.mono (hS.le zin0) hm)) (fun _ _ _ h => h)) <|
      sq_go 47 rfl rfl rfl (q_not rfl) <|
      sq_end) rfl rfl ?_
    clear hF hS; intro a w hF hS
    refine wpList_nil ?_
    refine hK14 _ _ ?_
    clear hK14
    refine wp_if hF rfl (fun hc4 => ?_) (fun hc4 => ?_)
    ·(try simp only [Bool.or_eq_true, Bool.and_eq_true, Bool.or_eq_false_iff, Bool.and_eq_false_iff, decide_eq_true_eq, decide_eq_false_iff_not, Bool.not_eq_true', Bool.not_eq_false'] at hc4)
     have hnx9 := Hu.nx_hit ⟨hi0, by omega⟩ hA9 hC9 hc4
     refine wp_seq_k ?_; intro K15 hK15
     refine reg hF hS (sq rfl (q_fieldAddr ty26 rfl rfl (s' := 0) kQ) <|
       sq rfl (q_ld_blk1 ty22 1 rfl rfl rfl rfl) <|
       sq rfl (q_move rfl) <|
       sq rfl (q_idx_sl ty22 ty3 hxs rfl rfl (by omega)) <|
       sq rfl (q_ld_I ty3 hxs zin0 rfl rfl (by omega)) <|
       sq rfl (q_assign rfl) <|
       sq rfl (q_assign rfl) <|
       sq rfl (q_assign rfl) <|
       sq_end) ?_
     clear hF hS; intro a w hF hS
     refine hK15 _ _ ?_
     clear hK15
     refine wp_ret ?_
     exact fn_ret (rs := [.tmp 4, .tmp 5, .tmp 6]) rfl hF hS (vs := [_, _, _]) ⟨rfl, rfl, rfl, trivial⟩ zQ zQ (by have h9 := Hu.nxT1 (xs := xs) (xb := xb) (ks := ks) (ms := ms) hft (by rw [hnx9]; omega); rw [hnx9] at h9; exact h9)
    ·(try simp only [Bool.or_eq_true, Bool.and_eq_true, Bool.or_eq_false_iff, Bool.and_eq_false_iff, decide_eq_true_eq, decide_eq_false_iff_not, Bool.not_eq_true', Bool.not_eq_false'] at hc4)
     refine wp_skip ?_
     refine hK13 _ _ ?_
     clear hK13
     refine reg hF hS (sq rfl (q_move rfl) <|
       sq rfl (q_addi rfl rfl (by omega)) <|
       sq rfl (q_assign rfl) <|
       sq_end) ?_
     clear hF hS; intro a w hF hS
     refine ⟨(i + 1), ?_, ?_, hF.sub ⟨rfl, rfl, rfl, rfl, trivial⟩, ?_⟩
     ·(try dsimp only); omega
     ·exact ⟨by omega, by omega, Hu.nxC_step hi0 hC9 hc4⟩
     ·exact hS
   ·obtain rfl : i = xs.length := by omega
    rw [Int.toNat_natCast] at hC9
    refine wp_exit ?_
    refine hK9 _ _ ?_
    clear hK9
    refine reg hF hS (sq rfl (q_move rfl) <|
      sq rfl (q_addi rfl rfl (by omega)) <|
      sq rfl (q_assign rfl) <|
      sq_end) ?_
    clear hF hS; intro a w hF hS
    refine ⟨(s + 1), ?_, ?_, hF.sub ⟨rfl, rfl, rfl, trivial⟩, ?_⟩
    ·(try dsimp only); omega
    ·exact ⟨by omega, by omega, Hu.nxA_step hA9 hC9⟩
    ·exact hS
  ·refine wp_exit ?_
   refine hK5 _ _ ?_
   clear hK5
   refine wp_seq_k ?_; intro K16 hK16
   refine reg hF hS (sq rfl (q_assign rfl) <|
     sq rfl (q_assign rfl) <|
     sq rfl (q_assign rfl) <|
     sq_end) ?_
   clear hF hS; intro a w hF hS
   refine hK16 _ _ ?_
   clear hK16
   refine wp_ret ?_
   exact fn_ret (rs := [.tmp 4, .tmp 5, .tmp 6]) rfl hF hS (vs := [_, _, _]) ⟨rfl, rfl, rfl, trivial⟩ zQ zQ (Hu.nxT0 hft (Hu.nx_non (by omega) hA9))
end Go.Proofs.Ytefjpigmgmbghaa
