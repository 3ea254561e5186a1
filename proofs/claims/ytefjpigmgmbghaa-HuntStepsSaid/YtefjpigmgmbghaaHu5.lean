/- A text of a proof over this seat: walks over the program's functions and the plain laws that they need. -/
import Derived.Test.YtefjpigmgmbghaaHu4
import Derived.Test.YtefjpigmgmbghaaHpA
import Derived.Test.YtefjpigmgmbghaaFwD
import Derived.Test.YtefjpigmgmbghaaFwB
set_option linter.all false
namespace Go.Proofs.Ytefjpigmgmbghaa
open Go.Fw
theorem fn26 : FnOk Try.prog 26 := ⟨_, Try.func26, rfl, by kernel_rfl⟩
theorem fn54 : FnOk Try.prog 54 := ⟨_, Try.func54, rfl, by kernel_rfl⟩
theorem fn58 : FnOk Try.prog 58 := ⟨_, Try.func58, rfl, by kernel_rfl⟩
theorem fn59 : FnOk Try.prog 59 := ⟨_, Try.func59, rfl, by kernel_rfl⟩
theorem fn68 : FnOk Try.prog 68 := ⟨_, Try.func68, rfl, by kernel_rfl⟩

set_option maxRecDepth 4000 in
set_option maxHeartbeats 2000000 in
theorem open_ct (xN xS xB : Value) (xs : List Int) (xb : List Bool) (kV mV : Value) (ks : List (List UInt8)) (ms : List Int) (hl : xs.length < 1048576) (w : World) (hxn : xN.oneCell' = true) (hxs : Sl encI (ph w) xS xs) (hxb : Sl encT (ph w) xB xb) (hk : Sl (encA 16) (ph w) kV ks) (hm : Sl encI (ph w) mV ms) : Ct Try.prog 26 [.agg [xN, xS, xB].toArray, .agg [kV, mV].toArray] w (SlE encI (Hu.opnL xs xb ks ms) (Hu.kE xs xb ks ms)) := by
 refine fn_enter Try.func26 rfl Try.ntmps26 (Nat.le_of_ble_eq_true rfl) fun a hF hS => ?_
 have hsl := hxs.1
 have htl := hxb.1
 have hml := hm.1
 have hkl := hk.1
 refine wp_seq_k ?_; intro K1 hK1
 refine regl ?_
 refine wpl_ef hF hS rfl (ef_boxA rfl) ?_
 clear hF hS; rintro _ _ _ a w ⟨b1, rfl, rfl, rfl⟩ hF hS
 refine wpl_ef hF hS rfl (ef_boxA rfl) ?_
 clear hF hS; rintro _ _ _ a w ⟨b2, rfl, rfl, rfl⟩ hF hS
 refine wpl_sq hF hS (sq rfl (q_assign rfl) <|
   sq rfl (q_assign rfl) <|
   sq_end) ?_
 clear hF hS; intro a w hF hS
 refine wpList_nil ?_
 refine hK1 _ _ ?_
 clear hK1
 refine wp_seq_k ?_; intro K2 hK2
 refine wp_seq_k ?_; intro K3 hK3
 refine reg hF hS (sq rfl (q_ld_blkW ty42 1 rfl rfl bQ rfl) <|
   sq rfl (q_ld_blkW ty38 0 rfl rfl bQ rfl) <|
   sq rfl (q_call fn54 rfl (fun w hS => fits_ct _ _ _ _ _ _ _ _ _ w hxn (Sl.mono (hS.le zin0) hxs) (Sl.mono (hS.le zin0) hxb) (Sl.mono (hS.le zin0) hk) (Sl.mono (hS.le zin0) hm)) (fun _ _ _ h => h)) <|
   sq rfl (q_not rfl) <|
   sq_end) ?_
 clear hF hS; intro a w hF hS
 refine hK3 _ _ ?_
 clear hK3
 refine wp_if hF rfl (fun hc1 => ?_) (fun hc1 => ?_)
 ·have hft : Hu.fitB xs xb ks ms = false := by simpa using hc1
  refine wp_seq_k ?_; intro K4 hK4
  refine reg hF hS (sq rfl (q_assign rfl) <|
    sq rfl (q_assign rfl) <|
    sq_end) ?_
  clear hF hS; intro a w hF hS
  refine hK4 _ _ ?_
  clear hK4
  refine wp_ret ?_
  replace hS := hS.zone00
  exact fn_ret (rs := [.tmp 4, .tmp 5]) rfl hF hS (vs := [_, _]) ⟨rfl, rfl, trivial⟩ (zs' := [_]) (hs' := []) (List.singleton_sublist.2 (by simp)) zQ (se_of ⟨_, _, (sl_nil (z := fun _ => none)), rfl, rfl, rfl⟩ (by unfold Hu.opnL Hu.clsQ; rw [hft]; rfl) ((Hu.kE_f hft).symm))
 ·have hft : Hu.fitB xs xb ks ms = true := by simpa using hc1
  have hfu := Hu.fit_use hft
  have hcl9 := Hu.clsL_len xs xb ks ms Hu.isO xs.length
  refine wp_skip ?_
  refine hK2 _ _ ?_
  clear hK2
  refine wp_seq_k ?_; intro K5 hK5
  refine regl ?_
  refine wpl_sq hF hS (sq rfl (q_ld_blkW ty42 1 rfl rfl bQ rfl) <|
    sq rfl (q_ld_blkW ty38 0 rfl rfl bQ rfl) <|
    sq_end) ?_
  clear hF hS; intro a w hF hS
  refine wpl_ef hF hS rfl (ef_call fn58 rfl (fun w hS => classes_ct _ _ _ _ _ _ _ _ _ _ (fun _ => True) Hu.isO (fun _ _ => trivial) hl (by omega) (by omega) (by omega) w hxn (Sl.mono (hS.le zin0) hxs) (Sl.mono (hS.le zin0) hxb) (Sl.mono (hS.le zin0) hk) (Sl.mono (hS.le zin0) hm) ⟨59, [], [], rfl, fn59, fun w' hle x0 hq => open1_ct _ w'⟩)) ?_
  clear hF hS; rintro v3 _ _ a w ⟨_, _, rfl, rfl, rfl, rfl⟩ hF hS
  replace hS : St _ [] [_, _, _] _ := hS
  refine wpl_sq hF hS (sq rfl (q_assign rfl) <|
    sq rfl (q_assign rfl) <|
    sq_end) ?_
  clear hF hS; intro a w hF hS
  refine wpList_nil ?_
  refine hK5 _ _ ?_
  clear hK5
  refine wp_ret ?_
  obtain ⟨zr, hzr, hS⟩ := St.freezeV (f := vi) (p := fun x => -9223372036854775808 ≤ x ∧ x ≤ 9223372036854775807) hS rfl (by first | omega | (simp; omega)) (fun x hx => sl_rng hxs x (Hu.clsL_mem _ (Nat.le_refl _) x hx))
  exact fn_ret (rs := [.tmp 4, .tmp 5]) rfl hF hS (vs := [_, _]) ⟨rfl, rfl, trivial⟩ (zs' := [_]) (hs' := []) (List.singleton_sublist.2 (by simp)) zQ (se_of ⟨_, _, hzr, rfl, rfl, rfl⟩ (by unfold Hu.opnL Hu.clsQ; rw [hft]; rfl) ((Hu.kE_t hft).symm))

set_option maxRecDepth 4000 in
set_option maxHeartbeats 2000000 in
theorem needed_ct (xN xS xB : Value) (xs : List Int) (xb : List Bool) (kV mV : Value) (ks : List (List UInt8)) (ms : List Int) (hl : xs.length < 1048576) (w : World) (hxn : xN.oneCell' = true) (hxs : Sl encI (ph w) xS xs) (hxb : Sl encT (ph w) xB xb) (hk : Sl (encA 16) (ph w) kV ks) (hm : Sl encI (ph w) mV ms) : Ct Try.prog 34 [.agg [xN, xS, xB].toArray, .agg [kV, mV].toArray] w (SlE encI (Hu.ndL xs xb ks ms) (Hu.kE xs xb ks ms)) := by
 refine fn_enter Try.func34 rfl Try.ntmps34 (Nat.le_of_ble_eq_true rfl) fun a hF hS => ?_
 have hsl := hxs.1
 have htl := hxb.1
 have hml := hm.1
 have hkl := hk.1
 refine wp_seq_k ?_; intro K1 hK1
 refine regl ?_
 refine wpl_ef hF hS rfl (ef_boxA rfl) ?_
 clear hF hS; rintro _ _ _ a w ⟨b1, rfl, rfl, rfl⟩ hF hS
 refine wpl_ef hF hS rfl (ef_boxA rfl) ?_
 clear hF hS; rintro _ _ _ a w ⟨b2, rfl, rfl, rfl⟩ hF hS
 refine wpl_sq hF hS (sq rfl (q_assign rfl) <|
   sq rfl (q_assign rfl) <|
   sq_end) ?_
 clear hF hS; intro a w hF hS
 refine wpList_nil ?_
 refine hK1 _ _ ?_
 clear hK1
 refine wp_seq_k ?_; intro K2 hK2
 refine wp_seq_k ?_; intro K3 hK3
 refine reg hF hS (sq rfl (q_ld_blkW ty42 1 rfl rfl bQ rfl) <|
   sq rfl (q_ld_blkW ty38 0 rfl rfl bQ rfl) <|
   sq rfl (q_call fn54 rfl (fun w hS => fits_ct _ _ _ _ _ _ _ _ _ w hxn (Sl.mono (hS.le zin0) hxs) (Sl.mono (hS.le zin0) hxb) (Sl.mono (hS.le zin0) hk) (Sl.mono (hS.le zin0) hm)) (fun _ _ _ h => h)) <|
   sq rfl (q_not rfl) <|
   sq_end) ?_
 clear hF hS; intro a w hF hS
 refine hK3 _ _ ?_
 clear hK3
 refine wp_if hF rfl (fun hc1 => ?_) (fun hc1 => ?_)
 ·have hft : Hu.fitB xs xb ks ms = false := by simpa using hc1
  refine wp_seq_k ?_; intro K4 hK4
  refine reg hF hS (sq rfl (q_assign rfl) <|
    sq rfl (q_assign rfl) <|
    sq_end) ?_
  clear hF hS; intro a w hF hS
  refine hK4 _ _ ?_
  clear hK4
  refine wp_ret ?_
  replace hS := hS.zone00
  exact fn_ret (rs := [.tmp 4, .tmp 5]) rfl hF hS (vs := [_, _]) ⟨rfl, rfl, trivial⟩ (zs' := [_]) (hs' := []) (List.singleton_sublist.2 (by simp)) zQ (se_of ⟨_, _, (sl_nil (z := fun _ => none)), rfl, rfl, rfl⟩ (by unfold Hu.ndL Hu.clsQ; rw [hft]; rfl) ((Hu.kE_f hft).symm))
 ·have hft : Hu.fitB xs xb ks ms = true := by simpa using hc1
  have hfu := Hu.fit_use hft
  have hcl9 := Hu.clsL_len xs xb ks ms Hu.isN xs.length
  refine wp_skip ?_
  refine hK2 _ _ ?_
  clear hK2
  refine wp_seq_k ?_; intro K5 hK5
  refine regl ?_
  refine wpl_sq hF hS (sq rfl (q_ld_blkW ty42 1 rfl rfl bQ rfl) <|
    sq rfl (q_ld_blkW ty38 0 rfl rfl bQ rfl) <|
    sq_end) ?_
  clear hF hS; intro a w hF hS
  refine wpl_ef hF hS rfl (ef_call fn58 rfl (fun w hS => classes_ct _ _ _ _ _ _ _ _ _ _ (fun _ => True) Hu.isN (fun _ _ => trivial) hl (by omega) (by omega) (by omega) w hxn (Sl.mono (hS.le zin0) hxs) (Sl.mono (hS.le zin0) hxb) (Sl.mono (hS.le zin0) hk) (Sl.mono (hS.le zin0) hm) ⟨68, [], [], rfl, fn68, fun w' hle x0 hq => needed1_ct _ w'⟩)) ?_
  clear hF hS; rintro v3 _ _ a w ⟨_, _, rfl, rfl, rfl, rfl⟩ hF hS
  replace hS : St _ [] [_, _, _] _ := hS
  refine wpl_sq hF hS (sq rfl (q_assign rfl) <|
    sq rfl (q_assign rfl) <|
    sq_end) ?_
  clear hF hS; intro a w hF hS
  refine wpList_nil ?_
  refine hK5 _ _ ?_
  clear hK5
  refine wp_ret ?_
  obtain ⟨zr, hzr, hS⟩ := St.freezeV (f := vi) (p := fun x => -9223372036854775808 ≤ x ∧ x ≤ 9223372036854775807) hS rfl (by first | omega | (simp; omega)) (fun x hx => sl_rng hxs x (Hu.clsL_mem _ (Nat.le_refl _) x hx))
  exact fn_ret (rs := [.tmp 4, .tmp 5]) rfl hF hS (vs := [_, _]) ⟨rfl, rfl, trivial⟩ (zs' := [_]) (hs' := []) (List.singleton_sublist.2 (by simp)) zQ (se_of ⟨_, _, hzr, rfl, rfl, rfl⟩ (by unfold Hu.ndL Hu.clsQ; rw [hft]; rfl) ((Hu.kE_t hft).symm))

set_option maxRecDepth 4000 in
set_option maxHeartbeats 2000000 in
theorem done_ct (xN xS xB : Value) (xs : List Int) (xb : List Bool) (kV mV : Value) (ks : List (List UInt8)) (ms : List Int) (hl : xs.length < 1048576) (w : World) (hxn : xN.oneCell' = true) (hxs : Sl encI (ph w) xS xs) (hxb : Sl encT (ph w) xB xb) (hk : Sl (encA 16) (ph w) kV ks) (hm : Sl encI (ph w) mV ms) : Ct Try.prog 30 [.agg [xN, xS, xB].toArray, .agg [kV, mV].toArray] w (fun r _ _ => r = .tuple #[.bool (Hu.dnB xs xb ks ms), vi (Hu.kE xs xb ks ms)]) := by
 refine fn_enter Try.func30 rfl Try.ntmps30 (Nat.le_of_ble_eq_true rfl) fun a hF hS => ?_
 have hsl := hxs.1
 have htl := hxb.1
 have hml := hm.1
 have hkl := hk.1
 refine wp_seq_k ?_; intro K1 hK1
 refine regl ?_
 refine wpl_ef hF hS rfl (ef_boxA rfl) ?_
 clear hF hS; rintro _ _ _ a w ⟨b1, rfl, rfl, rfl⟩ hF hS
 refine wpl_ef hF hS rfl (ef_boxA rfl) ?_
 clear hF hS; rintro _ _ _ a w ⟨b2, rfl, rfl, rfl⟩ hF hS
 refine wpl_sq hF hS (sq rfl (q_assign rfl) <|
   sq rfl (q_assign rfl) <|
   sq_end) ?_
 clear hF hS; intro a w hF hS
 refine wpList_nil ?_
 refine hK1 _ _ ?_
 clear hK1
 refine wp_seq_k ?_; intro K2 hK2
 refine regl ?_
 refine wpl_sq hF hS (sq rfl (q_ld_blkW ty42 1 rfl rfl bQ rfl) <|
   sq rfl (q_ld_blkW ty38 0 rfl rfl bQ rfl) <|
   sq_end) ?_
 clear hF hS; intro a w hF hS
 refine wpl_ef hF hS rfl (ef_call fn26 rfl (fun w hS => open_ct _ _ _ _ _ _ _ _ _ (by omega) w hxn (Sl.mono (hS.le zin0) hxs) (Sl.mono (hS.le zin0) hxb) (Sl.mono (hS.le zin0) hk) (Sl.mono (hS.le zin0) hm))) ?_
 clear hF hS; rintro _ _ _ a w ⟨_, _, rfl, rfl, ⟨vO, zO, hzO, rfl, rfl, rfl⟩⟩ hF hS
 replace hS : St _ [_] [_, _] _ := hS
 refine wpl_sq hF hS (sq rfl (q_move rfl) <|
   sq rfl (q_extract rfl rfl) <|
   sq rfl (q_extract rfl rfl) <|
   sq rfl (q_assign rfl) <|
   sq rfl (q_assign rfl) <|
   sq_end) ?_
 clear hF hS; intro a w hF hS
 refine wpList_nil ?_
 refine hK2 _ _ ?_
 clear hK2
 refine wp_seq_k ?_; intro K3 hK3
 refine regl ?_
 refine wpl_sq hF hS (sq rfl (q_move rfl) <|
   sq rfl (q_eqi rfl rfl) <|
   sq rfl (q_move rfl) <|
   sq_end) ?_
 clear hF hS; intro a w hF hS
 refine wpl_and 2 16 3 hF hS rfl rfl rfl rfl rfl (fun hg => have hg := (by first | exact of_decide_eq_true hg | exact hg); sq_go 16 rfl rfl rfl (q_move rfl) <|
   sq_go 16 rfl rfl rfl (q_len_sl ty22 hzO rfl) <|
   sq_go 16 rfl rfl rfl (q_eqi rfl rfl) <|
   sq_end) rfl rfl ?_
 clear hF hS; intro a w hF hS
 refine wpl_sq hF hS (sq rfl (q_move rfl) <|
   sq rfl (q_assign rfl) <|
   sq rfl (q_assign rfl) <|
   sq_end) ?_
 clear hF hS; intro a w hF hS
 refine wpList_nil ?_
 refine hK3 _ _ ?_
 clear hK3
 refine wp_ret ?_
 exact fn_ret (rs := [.tmp 4, .tmp 5]) rfl hF hS (vs := [_, _]) ⟨rfl, rfl, trivial⟩ zQ zQ (Hu.dn_eq)

set_option maxRecDepth 4000 in
set_option maxHeartbeats 2000000 in
theorem found_ct (xN xS xB : Value) (xs : List Int) (xb : List Bool) (kV mV : Value) (ks : List (List UInt8)) (ms : List Int) (hl : xs.length < 1048576) (w : World) (hxn : xN.oneCell' = true) (hxs : Sl encI (ph w) xS xs) (hxb : Sl encT (ph w) xB xb) (hk : Sl (encA 16) (ph w) kV ks) (hm : Sl encI (ph w) mV ms) : Ct Try.prog 32 [.agg [xN, xS, xB].toArray, .agg [kV, mV].toArray] w (SlE encI (Hu.fndL xs xb ks ms) (Hu.kE xs xb ks ms)) := by
 refine fn_enter Try.func32 rfl Try.ntmps32 (Nat.le_of_ble_eq_true rfl) fun a hF hS => ?_
 have hsl := hxs.1
 have htl := hxb.1
 have hml := hm.1
 have hkl := hk.1
 refine wp_seq_k ?_; intro K1 hK1
 refine regl ?_
 refine wpl_ef hF hS rfl (ef_boxA rfl) ?_
 clear hF hS; rintro _ _ _ a w ⟨b1, rfl, rfl, rfl⟩ hF hS
 refine wpl_ef hF hS rfl (ef_boxA rfl) ?_
 clear hF hS; rintro _ _ _ a w ⟨b2, rfl, rfl, rfl⟩ hF hS
 refine wpl_sq hF hS (sq rfl (q_assign rfl) <|
   sq rfl (q_assign rfl) <|
   sq_end) ?_
 clear hF hS; intro a w hF hS
 refine wpList_nil ?_
 refine hK1 _ _ ?_
 clear hK1
 refine wp_seq_k ?_; intro K2 hK2
 refine wp_seq_k ?_; intro K3 hK3
 refine reg hF hS (sq rfl (q_ld_blkW ty42 1 rfl rfl bQ rfl) <|
   sq rfl (q_ld_blkW ty38 0 rfl rfl bQ rfl) <|
   sq rfl (q_call fn54 rfl (fun w hS => fits_ct _ _ _ _ _ _ _ _ _ w hxn (Sl.mono (hS.le zin0) hxs) (Sl.mono (hS.le zin0) hxb) (Sl.mono (hS.le zin0) hk) (Sl.mono (hS.le zin0) hm)) (fun _ _ _ h => h)) <|
   sq rfl (q_not rfl) <|
   sq_end) ?_
 clear hF hS; intro a w hF hS
 refine hK3 _ _ ?_
 clear hK3
 refine wp_if hF rfl (fun hc1 => ?_) (fun hc1 => ?_)
 ·have hft : Hu.fitB xs xb ks ms = false := by simpa using hc1
  refine wp_seq_k ?_; intro K4 hK4
  refine reg hF hS (sq rfl (q_assign rfl) <|
    sq rfl (q_assign rfl) <|
    sq_end) ?_
  clear hF hS; intro a w hF hS
  refine hK4 _ _ ?_
  clear hK4
  refine wp_ret ?_
  replace hS := hS.zone00
  exact fn_ret (rs := [.tmp 4, .tmp 5]) rfl hF hS (vs := [_, _]) ⟨rfl, rfl, trivial⟩ (zs' := [_]) (hs' := []) (List.singleton_sublist.2 (by simp)) zQ (se_of ⟨_, _, (sl_nil (z := fun _ => none)), rfl, rfl, rfl⟩ (by unfold Hu.fndL; rw [hft]; rfl) ((Hu.kE_f hft).symm))
 ·have hft : Hu.fitB xs xb ks ms = true := by simpa using hc1
  have hfu := Hu.fit_use hft
  refine wp_skip ?_
  refine hK2 _ _ ?_
  clear hK2
  refine wp_seq_k ?_; intro K5 hK5
  refine reg hF hS (sq rfl (q_assign rfl) <|
    sq_end) ?_
  clear hF hS; intro a w hF hS
  replace hS := hS.nilRow 3 1
  refine hK5 _ _ ?_
  clear hK5
  refine wp_seq_k ?_; intro K6 hK6
  refine wp_seq_k ?_; intro K7 hK7
  refine reg hF hS (sq rfl (q_fieldAddr ty42 rfl rfl (s' := 0) kQ) <|
    sq rfl (q_ld_blk1 ty22 2 rfl rfl rfl rfl) <|
    sq rfl (q_len_sl ty22 hxs rfl) <|
    sq rfl (q_move rfl) <|
    sq_end) ?_
  clear hF hS; intro a w hF hS
  refine hK7 _ _ ?_
  clear hK7
  refine wp_block ?_
  obtain ⟨hs0, hhs0, hS⟩ : ∃ h, h = _ ∧ St _ _ h _ := ⟨_, rfl, hS⟩
  refine wp_loopx (γ := Value × Int) ((Value.slice none 0 0), 0) (fun (gg : Value × Int) => match gg with | (u, i) => [(6, u), (19, vi i)]) [(2, _), (3, _), (17, _), (18, _)] (fun (gg : Value × Int) => match gg with | (u, i) => (hs0.set 0 (.row u 3 1 (Hu.fdL xs xb ms i.toNat).length ((Hu.fdL xs xb ms i.toNat).map vi)))) (fun (gg : Value × Int) => match gg with | (u, i) => 0 ≤ i ∧ i ≤ xs.length) (fun (gg : Value × Int) => match gg with | (u, i) => (xs.length - i).toNat) (hF.sub ⟨rfl, rfl, rfl, rfl, rfl, rfl, trivial⟩) (by subst hhs0; exact hS) (by exact ⟨Int.le_refl _, by omega⟩) ?_
  clear hF hS; rintro ⟨u, i⟩ a w hfact hF hS
  subst hhs0; (try dsimp only at hfact); (try dsimp only at hF); (try dsimp only at hS)
  obtain ⟨hi0, hi1⟩ := hfact
  replace hS : St _ [] [_, _, _] _ := hS
  have hfl9 := Hu.fdL_len xs xb ms i.toNat
  refine wp_seq_k ?_; intro K8 hK8
  refine reg hF hS (sq rfl (q_lti rfl rfl) <|
    sq_end) ?_
  clear hF hS; intro a w hF hS
  refine hK8 _ _ ?_
  clear hK8
  refine wp_seq_k ?_; intro K9 hK9
  refine wp_ifd hF rfl (fun hc2 => ?_) (fun hc2 => ?_)
  ·refine wp_skip ?_
   refine hK9 _ _ ?_
   clear hK9
   refine wp_seq_k ?_; intro K10 hK10
   refine wp_block ?_
   refine wp_seq_k ?_; intro K11 hK11
   refine reg hF hS (sq rfl (q_move rfl) <|
     sq rfl (q_idx_sl ty22 ty3 hxs rfl rfl (by omega)) <|
     sq rfl (q_ld_I ty3 hxs zin0 rfl rfl (by omega)) <|
     sq rfl (q_assign rfl) <|
     sq rfl (q_assign rfl) <|
     sq_end) ?_
   clear hF hS; intro a w hF hS
   refine hK11 _ _ ?_
   clear hK11
   refine wp_seq_k ?_; intro K12 hK12
   refine reg hF hS (sq rfl (q_fieldAddr ty38 rfl rfl (s' := 0) kQ) <|
     sq rfl (q_ld_blk1 ty22 1 rfl rfl rfl rfl) <|
     sq rfl (q_move rfl) <|
     sq rfl (q_idx_sl ty22 ty3 hm rfl rfl (by omega)) <|
     sq rfl (q_ld_I ty3 hm zin0 rfl rfl (by omega)) <|
     sq rfl (q_eqi rfl rfl) <|
     sq rfl (q_assign rfl) <|
     sq_end) ?_
   clear hF hS; intro a w hF hS
   refine hK12 _ _ ?_
   clear hK12
   refine wp_seq_k ?_; intro K13 hK13
   refine wp_seq_k ?_; intro K14 hK14
   refine reg hF hS (sq rfl (q_fieldAddr ty42 rfl rfl (s' := 0) kQ) <|
     sq rfl (q_ld_blk1 ty22 2 rfl rfl rfl rfl) <|
     sq rfl (q_len_sl ty22 hxs rfl) <|
     sq rfl (q_move rfl) <|
     sq_end) ?_
   clear hF hS; intro a w hF hS
   refine hK14 _ _ ?_
   clear hK14
   refine wp_block ?_
   obtain ⟨hs0, hhs0, hS⟩ : ∃ h, h = _ ∧ St _ _ h _ := ⟨_, rfl, hS⟩
   refine wp_loopx (γ := Int) (0) (fun (j : Int) => [(9, .bool (Hu.fdk xs xb ms i.toNat j.toNat)), (33, vi j)]) [(2, _), (3, _), (6, _), (8, _), (17, _), (18, _), (19, _), (31, _), (32, _)] (fun (j : Int) => hs0) (fun (j : Int) => 0 ≤ j ∧ j ≤ xs.length) (fun (j : Int) => (xs.length - j).toNat) (hF.sub ⟨(by show some _ = some _; rw [show (0 : Int).toNat = 0 from rfl, Hu.fdk_0]), rfl, rfl, rfl, rfl, rfl, rfl, rfl, rfl, rfl, rfl, trivial⟩) (by subst hhs0; exact hS) (by exact ⟨Int.le_refl _, by omega⟩) ?_
   clear hF hS; rintro j a w hfact hF hS
   subst hhs0; (try dsimp only at hfact); (try dsimp only at hF); (try dsimp only at hS)
   obtain ⟨hj0, hj1⟩ := hfact
   replace hS : St _ [] [_, _, _] _ := hS
   refine wp_seq_k ?_; intro K15 hK15
   refine reg hF hS (sq rfl (q_lti rfl rfl) <|
     sq_end) ?_
   clear hF hS; intro a w hF hS
   refine hK15 _ _ ?_
   clear hK15
   refine wp_seq_k ?_; intro K16 hK16
   refine wp_ifd hF rfl (fun hc3 => ?_) (fun hc3 => ?_)
   ·refine wp_skip ?_
    refine hK16 _ _ ?_
    clear hK16
    refine wp_seq_k ?_; intro K17 hK17
    refine wp_block ?_
    refine wp_seq_k ?_; intro K18 hK18
    refine reg hF hS (sq rfl (q_move rfl) <|
      sq rfl (q_idx_sl ty22 ty3 hxs rfl rfl (by omega)) <|
      sq rfl (q_ld_I ty3 hxs zin0 rfl rfl (by omega)) <|
      sq rfl (q_assign rfl) <|
      sq rfl (q_assign rfl) <|
      sq_end) ?_
    clear hF hS; intro a w hF hS
    refine hK18 _ _ ?_
    clear hK18
    refine regl ?_
    refine wpl_sq hF hS (sq rfl (q_move rfl) <|
      sq rfl (q_move rfl) <|
      sq_end) ?_
    clear hF hS; intro a w hF hS
    refine wpl_andG (q := (Hu.fdj xs xb ms (xs.getD i.toNat 0) j.toNat)) 39 19 hF hS rfl (by rfl) rfl (fun _ => sq_skip 39 rfl rfl rfl rfl <|
      sq_skip 39 rfl rfl rfl rfl <|
      sq_skip 39 rfl rfl rfl rfl <|
      sq_skip 39 rfl rfl rfl rfl <|
      sq_skip 39 rfl rfl rfl rfl <|
      sq_skip 39 rfl rfl rfl rfl <|
      sq_skipu 45 rfl rfl rfl <|
      sq_skipu 45 rfl rfl rfl <|
      sq_skipu 45 rfl rfl rfl <|
      sq_skip 39 rfl rfl rfl rfl <|
      sq_skip 39 rfl rfl rfl rfl <|
      sq_skipu 50 rfl rfl rfl <|
      sq_skipu 50 rfl rfl rfl <|
      sq_skipu 50 rfl rfl rfl <|
      sq_skipu 50 rfl rfl rfl <|
      sq_skipu 50 rfl rfl rfl <|
      sq_skipu 50 rfl rfl rfl <|
      sq_skip 39 rfl rfl rfl rfl <|
      sq_skip 39 rfl rfl rfl rfl <|
      sq_end) rfl (fun hg a w hF hS KG => ?_) ?_
    ·have hg := hg
     refine wpl_sq hF hS (sq_go 39 rfl rfl rfl (q_fieldAddr ty42 rfl rfl (s' := 0) kQ) <|
       sq_go 39 rfl rfl rfl (q_ld_blk1 ty24 2 rfl rfl rfl rfl) <|
       sq_go 39 rfl rfl rfl (q_move rfl) <|
       sq_go 39 rfl rfl rfl (q_idx_sl ty24 ty4 hxb rfl rfl (by omega)) <|
       sq_go 39 rfl rfl rfl (q_ld_T ty4 hxb zin0 rfl rfl (by omega)) <|
       sq_go 39 rfl rfl rfl (q_move rfl) <|
       sq_end) ?_
     clear hF hS; intro a w hF hS
     refine wpl_andP 7 45 3 1 39 hF hS rfl rfl rfl rfl rfl rfl rfl (fun hg2 => have hg2 := hg2; sq_go 45 rfl rfl rfl (q_move rfl) <|
       sq_go 45 rfl rfl rfl (q_move rfl) <|
       sq_go 45 rfl rfl rfl (q_call fn66 rfl (fun w hS => below_ct _ _ w ) (fun _ _ _ h => h)) <|
       sq_end) rfl rfl ?_
     clear hF hS; intro a w hF hS
     refine wpl_sq hF hS (sq_go 39 rfl rfl rfl (q_move rfl) <|
       sq_end) ?_
     clear hF hS; intro a w hF hS
     refine wpl_andP 12 50 6 1 39 hF hS rfl rfl rfl rfl rfl rfl rfl (fun hg2 => have hg2 := hg2; sq_go 50 rfl rfl rfl (q_fieldAddr ty38 rfl rfl (s' := 0) kQ) <|
       sq_go 50 rfl rfl rfl (q_ld_blk1 ty22 1 rfl rfl rfl rfl) <|
       sq_go 50 rfl rfl rfl (q_move rfl) <|
       sq_go 50 rfl rfl rfl (q_idx_sl ty22 ty3 hm rfl rfl (by omega)) <|
       sq_go 50 rfl rfl rfl (q_ld_I ty3 hm zin0 rfl rfl (by omega)) <|
       sq_go 50 rfl rfl rfl (q_nei rfl rfl) <|
       sq_end) rfl rfl ?_
     clear hF hS; intro a w hF hS
     refine wpl_sq hF hS (sq_go 39 rfl rfl rfl (q_not rfl) <|
       sq rfl (q_pick_t rfl rfl) <|
       sq_end) ?_
     clear hF hS; intro a w hF hS
     exact KG _ _ (hF.under 10 rfl rfl) hS
    clear hF hS; intro a w hF hS
    refine wpl_sq hF hS (sq rfl (q_assign rfl) <|
      sq_end) ?_
    clear hF hS; intro a w hF hS
    refine wpList_nil ?_
    refine hK17 _ _ ?_
    clear hK17
    refine reg hF hS (sq rfl (q_addi rfl rfl (by omega)) <|
      sq rfl (q_move rfl) <|
      sq_end) ?_
    clear hF hS; intro a w hF hS
    refine ⟨(j + 1), ?_, ?_, hF.sub ⟨(by show some _ = some _; rw [show (j + 1).toNat = j.toNat + 1 by omega, Hu.fdk_succ]), rfl, rfl, rfl, rfl, rfl, rfl, rfl, rfl, rfl, rfl, trivial⟩, ?_⟩
    ·(try dsimp only); omega
    ·(try dsimp only); omega
    ·exact hS
   ·obtain rfl : j = xs.length := by omega
    rw [Int.toNat_natCast] at hF
    refine wp_exit ?_
    refine hK13 _ _ ?_
    clear hK13
    refine wp_seq_k ?_; intro K19 hK19
    refine reg hF hS (sq rfl (q_move rfl) <|
      sq_end) ?_
    clear hF hS; intro a w hF hS
    refine hK19 _ _ ?_
    clear hK19
    refine wp_if hF rfl (fun hc4 => ?_) (fun hc4 => ?_)
    ·refine regl ?_
     refine wpl_sq hF hS (sq rfl (q_move rfl) <|
       sq rfl (q_move rfl) <|
       sq_end) ?_
     clear hF hS; intro a w hF hS
     refine wpl_ef hF hS rfl (ef_bsliceA ty22 ty3 rfl rfl oQ (by decide) rfl rfl) ?_
     clear hF hS; rintro v4 _ _ a w ⟨rfl, rfl⟩ hF hS
     replace hS : St _ [] [_, _, _, _] _ := hS
     refine wpl_ef hF hS rfl (ef_append ty22 ty3 1 rfl rfl rfl (src_row ty22 (k := 0) rfl oQ) bQ rfl (by decide)) ?_
     clear hF hS; rintro v6 _ _ a w ⟨rfl, rfl⟩ hF hS
     replace hS : St _ [] [_, _, _, _] _ := hS
     refine wpl_sq hF hS (sq rfl (q_assign rfl) <|
       sq_end) ?_
     clear hF hS; intro a w hF hS
     refine wpList_nil ?_
     refine hK10 _ _ ?_
     clear hK10
     refine reg hF hS (sq rfl (q_addi rfl rfl (by omega)) <|
       sq rfl (q_move rfl) <|
       sq_end) ?_
     clear hF hS; intro a w hF hS
     replace hS := hS.keep zQ (sQ.n)
     refine ⟨(v6, i + 1), ?_, ?_, hF.sub ⟨rfl, rfl, rfl, rfl, rfl, rfl, trivial⟩, ?_⟩
     ·(try dsimp only); omega
     ·(try dsimp only); omega
     ·dsimp only; rw [Hu.fdL_t hi0 hc4, List.length_append, List.map_append]; exact hS
    ·refine wp_skip ?_
     refine hK10 _ _ ?_
     clear hK10
     refine reg hF hS (sq rfl (q_addi rfl rfl (by omega)) <|
       sq rfl (q_move rfl) <|
       sq_end) ?_
     clear hF hS; intro a w hF hS
     refine ⟨(u, i + 1), ?_, ?_, hF.sub ⟨rfl, rfl, rfl, rfl, rfl, rfl, trivial⟩, ?_⟩
     ·(try dsimp only); omega
     ·(try dsimp only); omega
     ·dsimp only; rw [Hu.fdL_f hi0 hc4]; exact hS
  ·obtain rfl : i = xs.length := by omega
   rw [Int.toNat_natCast] at hS
   have hfl9 := Hu.fdL_len xs xb ms xs.length
   refine wp_exit ?_
   refine hK6 _ _ ?_
   clear hK6
   refine wp_seq_k ?_; intro K20 hK20
   refine reg hF hS (sq rfl (q_move rfl) <|
     sq rfl (q_assign rfl) <|
     sq rfl (q_assign rfl) <|
     sq_end) ?_
   clear hF hS; intro a w hF hS
   refine hK20 _ _ ?_
   clear hK20
   refine wp_ret ?_
   obtain ⟨zr, hzr, hS⟩ := St.freezeV (f := vi) (p := fun x => -9223372036854775808 ≤ x ∧ x ≤ 9223372036854775807) hS rfl (by first | omega | (simp; omega)) (fun x hx => sl_rng hxs x (Hu.fdL_mem _ (Nat.le_refl _) x hx))
   exact fn_ret (rs := [.tmp 4, .tmp 5]) rfl hF hS (vs := [_, _]) ⟨rfl, rfl, trivial⟩ (zs' := [_]) (hs' := []) (List.singleton_sublist.2 (by simp)) zQ (se_of ⟨_, _, hzr, rfl, rfl, rfl⟩ (by unfold Hu.fndL; rw [hft]; rfl) ((Hu.kE_t hft).symm))
end Go.Proofs.Ytefjpigmgmbghaa
