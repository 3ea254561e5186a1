/- A text of a proof over this seat: walks over the program's functions and the plain laws that they need. -/
import Derived.Test.YtefjpigmgmbghaaHu3
import Derived.Test.YtefjpigmgmbghaaHpA
import Derived.Test.YtefjpigmgmbghaaFwD
import Derived.Test.YtefjpigmgmbghaaFwB
set_option linter.all false
namespace Go.Proofs.Ytefjpigmgmbghaa
open Go.Fw
theorem ty94 : Tf Try.prog 94 (.func #[3] #[4] false) 1 8 (Value.nilFunc) := ⟨Try.underlying94, by kernel_rfl⟩
theorem ty111 : Tf Try.prog 111 (.map 66 4) 1 8 (Value.map none) := ⟨Try.underlying111, by kernel_rfl⟩
theorem fn63 : FnOk Try.prog 63 := ⟨_, Try.func63, rfl, by kernel_rfl⟩
theorem fn77 : FnOk Try.prog 77 := ⟨_, Try.func77, rfl, by kernel_rfl⟩

set_option maxRecDepth 4000 in
set_option maxHeartbeats 2000000 in
theorem open1_ct (m : Int) (w : World) : Ct Try.prog 59 [vi m] w (fun r _ _ => r = .bool (decide (m = 0))) := by
 refine fn_enter Try.func59 rfl Try.ntmps59 (Nat.le_of_ble_eq_true rfl) fun a hF hS => ?_
 refine wp_seq_k ?_; intro K1 hK1
 refine reg hF hS (sq rfl (q_assign rfl) <|
   sq_end) ?_
 clear hF hS; intro a w hF hS
 refine hK1 _ _ ?_
 clear hK1
 refine wp_seq_k ?_; intro K2 hK2
 refine reg hF hS (sq rfl (q_move rfl) <|
   sq rfl (q_eqi rfl rfl) <|
   sq rfl (q_assign rfl) <|
   sq_end) ?_
 clear hF hS; intro a w hF hS
 refine hK2 _ _ ?_
 clear hK2
 refine wp_ret ?_
 exact fn_ret (rs := [.tmp 2]) rfl hF hS (vs := [_]) ⟨rfl, trivial⟩ zQ zQ (rfl)

set_option maxRecDepth 4000 in
set_option maxHeartbeats 2000000 in
theorem needed1_ct (m : Int) (w : World) : Ct Try.prog 68 [vi m] w (fun r _ _ => r = .bool (!decide (m = 0))) := by
 refine fn_enter Try.func68 rfl Try.ntmps68 (Nat.le_of_ble_eq_true rfl) fun a hF hS => ?_
 refine wp_seq_k ?_; intro K1 hK1
 refine reg hF hS (sq rfl (q_assign rfl) <|
   sq_end) ?_
 clear hF hS; intro a w hF hS
 refine hK1 _ _ ?_
 clear hK1
 refine wp_seq_k ?_; intro K2 hK2
 refine reg hF hS (sq rfl (q_move rfl) <|
   sq rfl (q_nei rfl rfl) <|
   sq rfl (q_assign rfl) <|
   sq_end) ?_
 clear hF hS; intro a w hF hS
 refine hK2 _ _ ?_
 clear hK2
 refine wp_ret ?_
 exact fn_ret (rs := [.tmp 2]) rfl hF hS (vs := [_]) ⟨rfl, trivial⟩ zQ zQ (rfl)

set_option maxRecDepth 4000 in
set_option maxHeartbeats 2000000 in
theorem classes_ct (xN xS xB : Value) (xs : List Int) (xb : List Bool) (kV mV : Value) (ks : List (List UInt8)) (ms : List Int) (fv : Value) (q : Int → Prop) (want : Int → Bool) (hqm : ∀ x ∈ ms, q x) (hl : xs.length < 1048576) (hq1 : xb.length = xs.length) (hq2 : ks.length = xs.length) (hq3 : ms.length = xs.length) (w : World) (hxn : xN.oneCell' = true) (hxs : Sl encI (ph w) xS xs) (hxb : Sl encT (ph w) xB xb) (hk : Sl (encA 16) (ph w) kV ks) (hm : Sl encI (ph w) mV ms) (hf : Fn1 Try.prog w fv q want) : Ct Try.prog 58 [.agg [xN, xS, xB].toArray, .agg [kV, mV].toArray, fv] w (fun v zs hs => zs = [] ∧ hs = [.row v 3 1 (Hu.clsL xs xb ks ms want xs.length).length ((Hu.clsL xs xb ks ms want xs.length).map vi)]) := by
 refine fn_enterM Try.func58 rfl Try.ntmps58 (Nat.le_of_ble_eq_true rfl) fun a hF hS => ?_
 have hsl := hxs.1
 have htl := hxb.1
 have hml := hm.1
 have hkl := hk.1
 have hk16 : ∀ j, j < ks.length → (ks.getD j []).length = 16 := fun j hj => by have := hk.rep (i := j) (x := ks[j]) (by simp [hj]); rw [List.getD_eq_getElem?_getD, List.getElem?_eq_getElem hj]; exact this.1
 refine wp_seq_k ?_; intro K1 hK1
 refine regl ?_
 refine wpl_ef hF hS rfl (ef_boxA rfl) ?_
 clear hF hS; rintro _ _ _ a w ⟨b1, rfl, rfl, rfl⟩ hF hS
 refine wpl_ef hF hS rfl (ef_boxA rfl) ?_
 clear hF hS; rintro _ _ _ a w ⟨b2, rfl, rfl, rfl⟩ hF hS
 refine wpl_ef hF hS rfl (ef_box1 rfl hf.one) ?_
 clear hF hS; rintro _ _ _ a w ⟨b3, rfl, rfl, rfl⟩ hF hS
 refine wpl_sq hF hS (sq rfl (q_assign rfl) <|
   sq_end) ?_
 clear hF hS; intro a w hF hS
 refine wpList_nil ?_
 refine hK1 _ _ ?_
 clear hK1
 refine wp_seq_k ?_; intro K2 hK2
 refine regl ?_
 refine wpl_ef hF hS rfl (ef_mkmap) ?_
 clear hF hS; rintro _ _ _ a w ⟨b4, rfl, rfl, rfl⟩ hF hS
 replace hS : St _ [] [_, _, _, _] _ := hS
 refine wpl_ef hF hS rfl (ef_alloc1 ty111 (by rfl)) ?_
 clear hF hS; rintro _ _ _ a w ⟨b6, rfl, rfl, rfl⟩ hF hS
 refine wpl_ef hF hS rfl (ef_store1 ty111 0 rfl rfl rfl rfl (by simp)) ?_
 clear hF hS; rintro _ _ _ a w ⟨rfl, rfl, rfl⟩ hF hS
 (try simp only [List.set_cons_zero, List.set_cons_succ] at hS)
 replace hS : St _ [] [_, _, _, _, _] _ := hS
 refine wpList_nil ?_
 refine hK2 _ _ ?_
 clear hK2
 refine wp_seq_k ?_; intro K3 hK3
 refine wp_seq_k ?_; intro K4 hK4
 refine regl ?_
 refine wpl_sq hF hS (sq rfl (q_ld_blkW ty42 4 rfl rfl bQ rfl) <|
   sq rfl (q_ld_blkW ty38 3 rfl rfl bQ rfl) <|
   sq_end) ?_
 clear hF hS; intro a w hF hS
 refine wpl_ef hF hS rfl (ef_call fn63 rfl (fun w hS => free_ct _ _ _ _ _ _ _ _ _ w hxn (Sl.mono (hS.le zin0) hxs) (Sl.mono (hS.le zin0) hxb) (Sl.mono (hS.le zin0) hk) (Sl.mono (hS.le zin0) hm))) ?_
 clear hF hS; rintro _ _ _ a w ⟨_, _, rfl, rfl, ⟨e1, e2, rfl, rfl, rfl⟩⟩ hF hS
 replace hS : St _ [] [_, _, _, _, _, _, _] _ := hS
 refine wpList_nil ?_
 refine hK4 _ _ ?_
 clear hK4
 refine wp_block ?_
 replace hS := hS.perm (.cons _ (.cons _ (.swap _ _ _)))
 replace hS : St _ [] [_, _, _, _, _, _, _] _ := hS
 obtain ⟨hs0, hhs0, hS⟩ : ∃ h, h = _ ∧ St _ _ h _ := ⟨_, rfl, hS⟩
 refine wp_rangeF (fun r => hs0.set 2 r) ((fun k r => ∃ es c ml, r = .mp b4 es c ∧ MpR abv ml es ∧ Hu.OpM (Hu.opK xs xb ks ms want k) ml)) ((Hu.frl xs xb ms).length) ((fun k => vi (((Hu.frl xs xb ms).getD k 0 : Nat) : Int))) (.mp b4 [] 0) hF (by subst hhs0; exact hS) rfl rfl rfl (fn77) (⟨[], 0, [], rfl, rfl, .start Hu.opK_0⟩) (fun Y zs1 hzz hY w hS => ?_) (fun l9 m9 zB zD k9 r9 a w hk9 hi9 hF hS => ?_) (fun I D zD a w r9 hI hD hi9 hF hS => ?_)
 ·subst hhs0
  exact CxH.full (free1_ct xN xS xB xs xb kV mV ks ms e1 e2 Y hq1 hq3 _ zs1 _ _ _ hxn hxs hxb hk hm ⟨[], 0, [], rfl, rfl, .start Hu.opK_0⟩ hY) w hS
 ·subst hhs0
  (try dsimp only at hF); (try dsimp only [List.set_cons_zero, List.set_cons_succ] at hS)
  replace hS : St _ [_, _] [_, _, _, _, _, _, _] _ := hS
  obtain ⟨es, ec, ml, rfl, hMm, hOp⟩ := hi9
  obtain ⟨i, hie⟩ : ∃ i : Int, i = (((Hu.frl xs xb ms).getD k9 0 : Nat) : Int) := ⟨_, rfl⟩
  rw [← hie] at hF
  have hfg := Hu.frl_get hk9
  have hib : 0 ≤ i ∧ i < xs.length := by rw [hie]; exact ⟨by omega, by have := hfg.1; omega⟩
  replace hS : St _ [_, _] [_, _, _, _, _, _, _] _ := hS
  refine wpIn_block ?_
  refine wpIn_seq_k ?_; intro K5 hK5
  refine regdR (by rfl) mixed kQ hF hS (sq rfl (q_ld_blk1 ty94 4 rfl rfl rfl rfl) <|
    sq rfl (q_fieldAddr ty38 rfl rfl (s' := 0) kQ) <|
    sq rfl (q_ld_blk1 ty22 5 rfl rfl rfl rfl) <|
    sq rfl (q_move rfl) <|
    sq rfl (q_idx_sl ty22 ty3 hm rfl rfl (by omega)) <|
    sq rfl (q_ld_I ty3 hm zin0 rfl rfl (by omega)) <|
    sq rfl (q_fn1 hf rfl rfl (hqm _ (getD_mem (by omega)))) <|
    sq_end) ?_
  clear hF hS; intro a w hF hS
  refine hK5 _ _ ?_
  clear hK5
  refine wp_ifR hF rfl (fun hc1 => ?_) (fun hc1 => ?_)
  ·have hki := hk16 i.toNat (by omega)
   refine regtR 6 (by rfl) mixed kQ hF hS (sq rfl (q_ld_blk1 ty111 3 rfl rfl rfl rfl) <|
     sq rfl (q_fieldAddr ty38 rfl rfl (s' := 0) kQ) <|
     sq rfl (q_ld_blk1 ty28 5 rfl rfl rfl rfl) <|
     sq rfl (q_move rfl) <|
     sq rfl (q_idx_sl ty28 ty66 hk rfl rfl (by omega)) <|
     sq rfl (q_ld_AB ty66 hk zin0 rfl rfl (by decide) (by omega)) <|
     sq_end) ?_
   clear hF hS; intro a w hF hS
   refine wpl_ef hF hS rfl (ef_mapset ty111 (key_AB ty66 ty5) 2 rfl rfl rfl rfl hMm hOp.1 (by assumption)) ?_
   clear hF hS; rintro _ _ _ a w ⟨es1, ec1, hM1, rfl, rfl, rfl⟩ hF hS
   replace hS : St _ [_, _] [_, _, _, _, _, _, _] _ := hS
   refine listR ?_
   exact And.intro rfl ⟨_, ⟨es1, ec1, _, rfl, hM1, hOp.put hki (Hu.opK_t hk9 hie hc1)⟩, hS⟩
  ·refine wpIn_skip ?_
   exact And.intro rfl ⟨_, ⟨es, ec, ml, rfl, hMm, hOp.of (Hu.opK_f hk9 hie hc1)⟩, hS⟩
 subst hhs0
 (try dsimp only at hF); (try dsimp only [List.set_cons_zero, List.set_cons_succ] at hS)
 replace hS : St _ [_] [_, _, _, _, _, _, _] _ := hS
 obtain ⟨es, ec, ml, rfl, hMm, hOp0⟩ := hi9
 have hOp : Hu.OpM (Hu.lft xs xb ks ms want 0) ml := hOp0.of (fun key => by rw [Hu.lft_0, ← Hu.opK_all])
 replace hS : St _ [_] [_, _, _, _, _, _, _] _ := hS
 refine hK3 _ _ ?_
 clear hK3
 refine wp_seq_k ?_; intro K6 hK6
 refine reg hF hS (sq rfl (q_assign rfl) <|
   sq_end) ?_
 clear hF hS; intro a w hF hS
 replace hS := hS.nilRow 3 1
 refine hK6 _ _ ?_
 clear hK6
 refine wp_seq_k ?_; intro K7 hK7
 refine wp_seq_k ?_; intro K8 hK8
 refine reg hF hS (sq rfl (q_fieldAddr ty42 rfl rfl (s' := 0) kQ) <|
   sq rfl (q_ld_blk1 ty22 7 rfl rfl rfl rfl) <|
   sq rfl (q_len_sl ty22 hxs rfl) <|
   sq rfl (q_move rfl) <|
   sq_end) ?_
 clear hF hS; intro a w hF hS
 refine hK8 _ _ ?_
 clear hK8
 refine wp_block ?_
 obtain ⟨hs0, hhs0, hS⟩ : ∃ h, h = _ ∧ St _ _ h _ := ⟨_, rfl, hS⟩
 refine wp_loopx (γ := Value × List MapEntry × Nat × List (List UInt8 × Value) × Int) ((Value.slice none 0 0), es, ec, ml, 0) (fun (gg : Value × List MapEntry × Nat × List (List UInt8 × Value) × Int) => match gg with | (u, es, ec, ml, i) => [(9, u), (33, vi i)]) [(3, _), (4, _), (7, _), (31, _), (32, _)] (fun (gg : Value × List MapEntry × Nat × List (List UInt8 × Value) × Int) => match gg with | (u, es, ec, ml, i) => ((hs0.set 0 (.row u 3 1 (Hu.clsL xs xb ks ms want i.toNat).length ((Hu.clsL xs xb ks ms want i.toNat).map vi))).set 3 (.mp b4 es ec))) (fun (gg : Value × List MapEntry × Nat × List (List UInt8 × Value) × Int) => match gg with | (u, es, ec, ml, i) => 0 ≤ i ∧ i ≤ xs.length ∧ MpR abv ml es ∧ Hu.OpM (Hu.lft xs xb ks ms want i.toNat) ml) (fun (gg : Value × List MapEntry × Nat × List (List UInt8 × Value) × Int) => match gg with | (u, es, ec, ml, i) => (xs.length - i).toNat) (hF.sub ⟨rfl, rfl, rfl, rfl, rfl, rfl, rfl, trivial⟩) (by subst hhs0; exact hS) (by exact ⟨Int.le_refl _, by omega, hMm, hOp⟩) ?_
 clear hF hS; rintro ⟨u, es, ec, ml, i⟩ a w hfact hF hS
 subst hhs0; (try dsimp only at hfact); (try dsimp only at hF); (try dsimp only at hS)
 obtain ⟨hi0, hi1, hMm, hOp⟩ := hfact
 replace hS : St _ [_] [_, _, _, _, _, _, _, _] _ := hS
 have hcl9 := Hu.clsL_len xs xb ks ms want i.toNat
 refine wp_seq_k ?_; intro K9 hK9
 refine reg hF hS (sq rfl (q_lti rfl rfl) <|
   sq_end) ?_
 clear hF hS; intro a w hF hS
 refine hK9 _ _ ?_
 clear hK9
 refine wp_seq_k ?_; intro K10 hK10
 refine wp_ifd hF rfl (fun hc2 => ?_) (fun hc2 => ?_)
 ·have hki := hk16 i.toNat (by omega)
  refine wp_skip ?_
  refine hK10 _ _ ?_
  clear hK10
  refine wp_seq_k ?_; intro K11 hK11
  refine wp_block ?_
  refine wp_seq_k ?_; intro K12 hK12
  refine reg hF hS (sq rfl (q_move rfl) <|
    sq rfl (q_idx_sl ty22 ty3 hxs rfl rfl (by omega)) <|
    sq rfl (q_ld_I ty3 hxs zin0 rfl rfl (by omega)) <|
    sq rfl (q_assign rfl) <|
    sq rfl (q_assign rfl) <|
    sq_end) ?_
  clear hF hS; intro a w hF hS
  refine hK12 _ _ ?_
  clear hK12
  refine wp_seq_k ?_; intro K13 hK13
  refine regq mixed kQ hS ?_
  refine wpq_seg hF (sq rfl (q_fieldAddr ty42 rfl rfl (s' := 0) kQ) <|
    sq rfl (q_ld_blk1 ty24 7 rfl rfl rfl rfl) <|
    sq rfl (q_move rfl) <|
    sq rfl (q_idx_sl ty24 ty4 hxb rfl rfl (by omega)) <|
    sq rfl (q_ld_T ty4 hxb zin0 rfl rfl (by omega)) <|
    sq rfl (q_move rfl) <|
    sq_end) ?_
  clear hF; intro a hF
  refine wpq_and 5 43 7 hF rfl rfl rfl rfl rfl (fun hg => have hg := hg; sq_go 43 rfl rfl rfl (q_ld_blk1 ty111 4 rfl rfl rfl rfl) <|
    sq_go 43 rfl rfl rfl (q_fieldAddr ty38 rfl rfl (s' := 0) kQ) <|
    sq_go 43 rfl rfl rfl (q_ld_blk1 ty28 6 rfl rfl rfl rfl) <|
    sq_go 43 rfl rfl rfl (q_move rfl) <|
    sq_go 43 rfl rfl rfl (q_idx_sl ty28 ty66 hk rfl rfl (by omega)) <|
    sq_go 43 rfl rfl rfl (q_ld_AB ty66 hk zin0 rfl rfl (by decide) (by omega)) <|
    sq_go 43 rfl rfl rfl (q_lookupB ty111 ty4 (key_AB ty66 ty5) 3 rfl rfl rfl hMm hOp.1 hki (hOp.ask _)) <|
    sq_end) rfl rfl ?_
  clear hF; intro a hF
  refine wpq_nil ?_
  clear hS; intro w hS
  refine hK13 _ _ ?_
  clear hK13
  refine wp_if hF rfl (fun hc3 => ?_) (fun hc3 => ?_)
  ·(try simp only [Bool.or_eq_true, Bool.and_eq_true, Bool.or_eq_false_iff, Bool.and_eq_false_iff, decide_eq_true_eq, decide_eq_false_iff_not, Bool.not_eq_true', Bool.not_eq_false'] at hc3)
   refine wp_seq_k ?_; intro K14 hK14
   refine regt 6 mixed kQ hF hS (sq rfl (q_ld_blk1 ty111 4 rfl rfl rfl rfl) <|
     sq rfl (q_fieldAddr ty38 rfl rfl (s' := 0) kQ) <|
     sq rfl (q_ld_blk1 ty28 6 rfl rfl rfl rfl) <|
     sq rfl (q_move rfl) <|
     sq rfl (q_idx_sl ty28 ty66 hk rfl rfl (by omega)) <|
     sq rfl (q_ld_AB ty66 hk zin0 rfl rfl (by decide) (by omega)) <|
     sq_end) ?_
   clear hF hS; intro a w hF hS
   refine wpl_ef hF hS rfl (ef_mapdel ty111 (key_AB ty66 ty5) 3 rfl rfl rfl hMm hOp.1 (by assumption)) ?_
   clear hF hS; rintro _ _ _ a w ⟨es2, ec2, hM2, rfl, rfl⟩ hF hS
   replace hS : St _ [_] [_, _, _, _, _, _, _, _] _ := hS
   refine wpList_nil ?_
   refine hK14 _ _ ?_
   clear hK14
   refine regl ?_
   refine wpl_sq hF hS (sq rfl (q_move rfl) <|
     sq rfl (q_move rfl) <|
     sq_end) ?_
   clear hF hS; intro a w hF hS
   refine wpl_ef hF hS rfl (ef_bsliceA ty22 ty3 rfl rfl oQ (by decide) rfl rfl) ?_
   clear hF hS; rintro v9 _ _ a w ⟨rfl, rfl⟩ hF hS
   replace hS : St _ [_] [_, _, _, _, _, _, _, _, _] _ := hS
   refine wpl_ef hF hS rfl (ef_append ty22 ty3 1 rfl rfl rfl (src_row ty22 (k := 0) rfl oQ) bQ rfl (by decide)) ?_
   clear hF hS; rintro v11 _ _ a w ⟨rfl, rfl⟩ hF hS
   replace hS : St _ [_] [_, _, _, _, _, _, _, _, _] _ := hS
   refine wpl_sq hF hS (sq rfl (q_assign rfl) <|
     sq_end) ?_
   clear hF hS; intro a w hF hS
   refine wpList_nil ?_
   refine hK11 _ _ ?_
   clear hK11
   refine reg hF hS (sq rfl (q_addi rfl rfl (by omega)) <|
     sq rfl (q_move rfl) <|
     sq_end) ?_
   clear hF hS; intro a w hF hS
   replace hS := hS.keep sQ (sQ.n)
   refine ⟨(v11, es2, ec2, adel (ks.getD i.toNat []) ml, i + 1), ?_, ?_, hF.sub ⟨rfl, rfl, rfl, rfl, rfl, rfl, rfl, trivial⟩, ?_⟩
   ·(try dsimp only); omega
   ·exact ⟨by omega, by omega, hM2, hOp.cut (Hu.lft_t hi0 hc3.1)⟩
   ·dsimp only; rw [Hu.cls_t hi0 hc3, List.length_append, List.map_append]; exact hS
  ·(try simp only [Bool.or_eq_true, Bool.and_eq_true, Bool.or_eq_false_iff, Bool.and_eq_false_iff, decide_eq_true_eq, decide_eq_false_iff_not, Bool.not_eq_true', Bool.not_eq_false'] at hc3)
   refine wp_skip ?_
   refine hK11 _ _ ?_
   clear hK11
   refine reg hF hS (sq rfl (q_addi rfl rfl (by omega)) <|
     sq rfl (q_move rfl) <|
     sq_end) ?_
   clear hF hS; intro a w hF hS
   refine ⟨(u, es, ec, ml, i + 1), ?_, ?_, hF.sub ⟨rfl, rfl, rfl, rfl, rfl, rfl, rfl, trivial⟩, ?_⟩
   ·(try dsimp only); omega
   ·exact ⟨by omega, by omega, hMm, hOp.of (Hu.lft_f hi0 hc3)⟩
   ·dsimp only; rw [Hu.cls_f hi0 hc3]; exact hS
 ·obtain rfl : i = xs.length := by omega
  rw [Int.toNat_natCast] at hS
  refine wp_exit ?_
  refine hK7 _ _ ?_
  clear hK7
  refine wp_seq_k ?_; intro K15 hK15
  refine reg hF hS (sq rfl (q_move rfl) <|
    sq rfl (q_assign rfl) <|
    sq_end) ?_
  clear hF hS; intro a w hF hS
  refine hK15 _ _ ?_
  clear hK15
  refine wp_ret ?_
  exact fn_retD hI hD (by simp) (rs := [.tmp 6]) rfl hF hS (vs := [_]) ⟨rfl, trivial⟩ (hs' := [_]) (zQ.k) ⟨rfl, rfl⟩
end Go.Proofs.Ytefjpigmgmbghaa
