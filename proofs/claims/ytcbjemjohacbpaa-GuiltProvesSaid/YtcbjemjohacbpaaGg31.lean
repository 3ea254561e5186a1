/- A text of a proof over this seat: walks over the program's functions and the plain laws that they need. -/
import Derived.Test.YtcbjemjohacbpaaGg30
import Derived.Test.YtcbjemjohacbpaaGuA
import Derived.Test.YtcbjemjohacbpaaFwC
import Derived.Test.YtcbjemjohacbpaaFwB
set_option linter.all false
namespace Go.Proofs.Ytcbjemjohacbpaa
open Go.Fw
theorem ty61 : Tf Try.prog 61 (.struct #[⟨ "Sets", 22, 0, false, "", "", 0⟩, ⟨ "First", 22, 1, false, "", "", 24⟩, ⟨ "Bad", 23, 2, false, "", "", 48⟩]) 3 72 (.agg ([Value.slice none 0 0, Value.slice none 0 0, Value.slice none 0 0]).toArray) := ⟨Try.underlying61, by kernel_rfl⟩
theorem fn70 : FnOk Try.prog 70 := ⟨_, Try.func70, rfl, by kernel_rfl⟩
theorem fn71 : FnOk Try.prog 71 := ⟨_, Try.func71, rfl, by kernel_rfl⟩

/-- A proof, and the error. -/
def PrR (x : List Int × List Int × List Bool × Int) (r : Value) (zs : List PH) (hs : List Res) : Prop :=
 ∃ (sv fv bv : Value) (z : PH), r = .tuple [.agg [sv, fv, bv].toArray, vi x.2.2.2].toArray ∧ Sl encI z sv x.1 ∧ Sl encI z fv x.2.1 ∧ Sl encT z bv x.2.2.1 ∧ zs = [z] ∧ hs = []
theorem pr_of {x y : List Int × List Int × List Bool × Int} {r : Value} {zs : List PH} {hs : List Res} (h : PrR x r zs hs) (e : y = x) : PrR y r zs hs := e ▸ h

set_option maxRecDepth 4000 in
set_option maxHeartbeats 2000000 in
theorem prove_ct (xN xS xB : Value) (xs : List Int) (xb : List Bool) (v : Value) (ks : List (List UInt8)) (v2 : Value) (bs : List Bool) (hl : xs.length < 1048576) (w : World) (hxn : xN.oneCell' = true) (hxs : Sl encI (ph w) xS xs) (hxb : Sl encT (ph w) xB xb) (hk : Sl (encA 16) (ph w) v ks) (hb : Sl encT (ph w) v2 bs) : Ct Try.prog 37 [.agg [xN, xS, xB].toArray, v, v2] w (PrR (Gu.pv xs xb ks bs)) := by
 refine fn_enter Try.func37 rfl Try.ntmps37 (Nat.le_of_ble_eq_true rfl) fun a hF hS => ?_
 have hsl := hxs.1
 have htl := hxb.1
 have hkl := hk.1
 have hbl := hb.1
 refine wp_seq_k ?_; intro K1 hK1
 refine regl ?_
 refine wpl_ef hF hS rfl (ef_boxA rfl) ?_
 clear hF hS; rintro _ _ _ a w ⟨b1, rfl, rfl, rfl⟩ hF hS
 refine wpl_ef hF hS rfl (ef_allocA ty61) ?_
 clear hF hS; rintro _ _ _ a w ⟨b2, rfl, rfl, rfl⟩ hF hS
 refine wpl_sq hF hS (sq rfl (q_assign rfl) <|
   sq_end) ?_
 clear hF hS; intro a w hF hS
 refine wpList_nil ?_
 refine hK1 _ _ ?_
 clear hK1
 refine wp_seq_k ?_; intro K2 hK2
 refine regl ?_
 refine wpl_sq hF hS (sq rfl (q_ld_blkW ty34 1 rfl rfl bQ rfl) <|
   sq rfl (q_move rfl) <|
   sq_end) ?_
 clear hF hS; intro a w hF hS
 refine wpl_ef hF hS rfl (ef_call fn13 rfl (fun w hS => guilty_ct _ _ _ _ _ _ _ (by first | with_reducible assumption | omega) w hxn (Sl.mono (hS.le zin0) hxs) (Sl.mono (hS.le zin0) hxb) (Sl.mono (hS.le zin0) hb))) ?_
 clear hF hS; rintro _ _ _ a w ⟨_, _, rfl, rfl, ⟨v4, z5, hz6, rfl, rfl, rfl⟩⟩ hF hS
 replace hS : St _ [_] [_, _] _ := hS
 refine wpl_sq hF hS (sq rfl (q_move rfl) <|
   sq rfl (q_extract rfl rfl) <|
   sq rfl (q_extract rfl rfl) <|
   sq rfl (q_assign rfl) <|
   sq rfl (q_assign rfl) <|
   sq_end) ?_
 clear hF hS; intro a w hF hS
 refine wpList_nil ?_
 refine hK2 _ _ ?_
 clear hK2
 refine wp_seq_k ?_; intro K3 hK3
 refine wp_seq_k ?_; intro K4 hK4
 refine reg hF hS (sq rfl (q_move rfl) <|
   sq rfl (q_nei rfl rfl) <|
   sq_end) ?_
 clear hF hS; intro a w hF hS
 refine hK4 _ _ ?_
 clear hK4
 refine wp_ifn hF rfl (fun hc1 => ?_) (fun hc1 => ?_)
 ·have hft := Gu.ge_ne hc1
  have hg1 : Gu.ge xs xb bs = 1 := by unfold Gu.ge; rw [hft]; rfl
  rw [hg1] at hF
  refine wp_seq_k ?_; intro K5 hK5
  refine regl ?_
  refine wpl_sq hF hS (sq rfl (q_buildP (places := [(0, 1), (1, 1), (2, 1)]) (cells := [.slice none 0 0, .slice none 0 0, .slice none 0 0]) ty61 kQ rfl (by rfl)) <|
    sq rfl (q_move rfl) <|
    sq_end) ?_
  clear hF hS; intro a w hF hS
  refine wpl_ef hF hS rfl (ef_storeW ty61 0 rfl rfl rfl rfl bQ (oc_cons rfl (oc_cons rfl (oc_cons rfl oc_nil))) bQ) ?_
  clear hF hS; rintro _ _ _ a w ⟨rfl, rfl, rfl⟩ hF hS
  replace hS : St _ [_] [_, _] _ := hS
  refine wpl_sq hF hS (sq rfl (q_assign rfl) <|
    sq_end) ?_
  clear hF hS; intro a w hF hS
  refine wpList_nil ?_
  refine hK5 _ _ ?_
  clear hK5
  refine wp_ret ?_
  replace hS := hS.zone00
  exact fn_ret (rs := [.cell 6 61, .tmp 7]) rfl hF hS (vs := [_, _]) ⟨⟨_, _, _, _, _, _, _, rfl, List.mem_of_getElem? (i := 0) rfl, ty61, .inl ⟨rfl, bQ, rfl⟩⟩, rfl, trivial⟩ (zs' := [fun _ => none]) (hs' := []) (List.singleton_sublist.2 (by simp)) zQ (pr_of (x := ([], [], [], 1)) ⟨_, _, _, _, rfl, sl_nil, sl_nil, sl_nil, rfl, rfl⟩ (Gu.pv_1 hft))
 ·have hft := Gu.ge_eq hc1
  have hfu := Gu.fits_use hft
  refine wp_skip ?_
  refine hK3 _ _ ?_
  clear hK3
  refine wp_seq_k ?_; intro K6 hK6
  refine wp_seq_k ?_; intro K7 hK7
  refine reg hF hS (sq rfl (q_move rfl) <|
    sq rfl (q_len_sl ty62 hk rfl) <|
    sq rfl (q_fieldAddr ty34 rfl rfl (s' := 0) kQ) <|
    sq rfl (q_ld_blk1 ty22 1 rfl rfl rfl rfl) <|
    sq rfl (q_len_sl ty22 hxs rfl) <|
    sq rfl (q_nei rfl rfl) <|
    sq_end) ?_
  clear hF hS; intro a w hF hS
  refine hK7 _ _ ?_
  clear hK7
  refine wp_ifn hF rfl (fun hc2 => ?_) (fun hc2 => ?_)
  ·refine wp_seq_k ?_; intro K8 hK8
   refine regl ?_
   refine wpl_sq hF hS (sq rfl (q_buildP (places := [(0, 1), (1, 1), (2, 1)]) (cells := [.slice none 0 0, .slice none 0 0, .slice none 0 0]) ty61 kQ rfl (by rfl)) <|
     sq_end) ?_
   clear hF hS; intro a w hF hS
   refine wpl_ef hF hS rfl (ef_storeW ty61 0 rfl rfl rfl rfl bQ (oc_cons rfl (oc_cons rfl (oc_cons rfl oc_nil))) bQ) ?_
   clear hF hS; rintro _ _ _ a w ⟨rfl, rfl, rfl⟩ hF hS
   replace hS : St _ [_] [_, _] _ := hS
   refine wpl_sq hF hS (sq rfl (q_assign rfl) <|
     sq_end) ?_
   clear hF hS; intro a w hF hS
   refine wpList_nil ?_
   refine hK8 _ _ ?_
   clear hK8
   refine wp_ret ?_
   replace hS := hS.zone00
   exact fn_ret (rs := [.cell 6 61, .tmp 7]) rfl hF hS (vs := [_, _]) ⟨⟨_, _, _, _, _, _, _, rfl, List.mem_of_getElem? (i := 0) rfl, ty61, .inl ⟨rfl, bQ, rfl⟩⟩, rfl, trivial⟩ (zs' := [fun _ => none]) (hs' := []) (List.singleton_sublist.2 (by simp)) zQ (pr_of (x := ([], [], [], 1)) ⟨_, _, _, _, rfl, sl_nil, sl_nil, sl_nil, rfl, rfl⟩ (Gu.pv_2 hft hc2))
  ·have hcl := Gu.cls_len xb ks
   have hgl := Gu.gl_len xs xb bs
   refine wp_skip ?_
   refine hK6 _ _ ?_
   clear hK6
   refine wp_seq_k ?_; intro K9 hK9
   refine regl ?_
   refine wpl_sq hF hS (sq rfl (q_ld_blkW ty34 1 rfl rfl bQ rfl) <|
     sq rfl (q_move rfl) <|
     sq_end) ?_
   clear hF hS; intro a w hF hS
   refine wpl_ef hF hS rfl (ef_call fn70 rfl (fun w hS => classes_ct _ _ _ _ _ _ _ (by first | with_reducible assumption | omega) (by omega) (by omega) w hxn (Sl.mono (hS.le zin0) hxs) (Sl.mono (hS.le zin0) hxb) (Sl.mono (hS.le zin0) hk))) ?_
   clear hF hS; rintro v7 _ _ a w ⟨_, _, rfl, rfl, ⟨z8, hz9, rfl, rfl⟩⟩ hF hS
   replace hS : St _ [_, _] [_, _] _ := hS
   refine wpl_sq hF hS (sq rfl (q_assign rfl) <|
     sq_end) ?_
   clear hF hS; intro a w hF hS
   refine wpList_nil ?_
   refine hK9 _ _ ?_
   clear hK9
   refine wp_seq_k ?_; intro K10 hK10
   refine wp_seq_k ?_; intro K11 hK11
   refine reg hF hS (sq rfl (q_move rfl) <|
     sq rfl (q_len_sl ty22 hz9 rfl) <|
     sq rfl (q_move rfl) <|
     sq_end) ?_
   clear hF hS; intro a w hF hS
   refine hK11 _ _ ?_
   clear hK11
   refine wp_block ?_
   obtain ⟨hs0, hhs0, hS⟩ : ∃ h, h = _ ∧ St _ _ h _ := ⟨_, rfl, hS⟩
   refine wp_loopx (γ := Int) (0) (fun (i : Int) => [(35, vi i)]) [(2, _), (6, _), (8, _), (10, _), (33, _), (34, _)] (fun (i : Int) => hs0) (fun (i : Int) => 0 ≤ i ∧ i ≤ (Gu.cls xb ks).length ∧ ∀ j, j < i.toNat → Gu.dif xb ks bs j = false) (fun (i : Int) => ((Gu.cls xb ks).length - i).toNat) (hF.sub ⟨rfl, rfl, rfl, rfl, rfl, rfl, rfl, trivial⟩) (by subst hhs0; exact hS) (by exact ⟨Int.le_refl _, by omega, fun j hj => absurd hj (by simp)⟩) ?_
   clear hF hS; rintro i a w hfact hF hS
   subst hhs0; (try dsimp only at hfact); (try dsimp only at hF); (try dsimp only at hS)
   obtain ⟨hi0, hi1, hno⟩ := hfact
   replace hS : St _ [_, _] [_, _] _ := hS
   refine wp_seq_k ?_; intro K12 hK12
   refine reg hF hS (sq rfl (q_lti rfl rfl) <|
     sq_end) ?_
   clear hF hS; intro a w hF hS
   refine hK12 _ _ ?_
   clear hK12
   refine wp_seq_k ?_; intro K13 hK13
   refine wp_ifd hF rfl (fun hc3 => ?_) (fun hc3 => ?_)
   ·have hcr := Gu.clsAt_rng xb ks i.toNat
    have hce : (Gu.cls xb ks).getD i.toNat 0 = (Gu.clsAt xb ks i.toNat) := Gu.cls_get (by omega)
    refine wp_skip ?_
    refine hK13 _ _ ?_
    clear hK13
    refine wp_seq_k ?_; intro K14 hK14
    refine wp_block ?_
    refine wp_seq_k ?_; intro K15 hK15
    refine reg hF hS (sq rfl (q_move rfl) <|
      sq rfl (q_idx_sl ty22 ty3 hz9 rfl rfl (by omega)) <|
      sq rfl (q_ld_I ty3 hz9 (.inr (by simp)) rfl rfl (by omega)) <|
      sq rfl (q_assign rfl) <|
      sq rfl (q_assign rfl) <|
      sq_end) ?_
    clear hF hS; intro a w hF hS
    refine hK15 _ _ ?_
    clear hK15
    refine wp_seq_k ?_; intro K16 hK16
    refine regq mixed kQ hS ?_
    refine wpq_seg hF (sq rfl (q_move rfl) <|
      sq rfl (q_gei rfl rfl) <|
      sq rfl (q_move rfl) <|
      sq_end) ?_
    clear hF; intro a hF
    refine wpq_and 2 42 9 hF rfl rfl rfl rfl rfl (fun hg => have hg := (by first | exact of_decide_eq_true hg | exact hg); sq_go 42 rfl rfl rfl (q_move rfl) <|
      sq_go 42 rfl rfl rfl (q_move rfl) <|
      sq_go 42 rfl rfl rfl (q_idx_sl ty23 ty4 hb rfl rfl (by omega)) <|
      sq_go 42 rfl rfl rfl (q_ld_T ty4 hb zin0 rfl rfl (by omega)) <|
      sq_go 42 rfl rfl rfl (q_move rfl) <|
      sq_go 42 rfl rfl rfl (q_move rfl) <|
      sq_go 42 rfl rfl rfl (q_idx_sl ty23 ty4 hb rfl rfl (by omega)) <|
      sq_go 42 rfl rfl rfl (q_ld_T ty4 hb zin0 rfl rfl (by omega)) <|
      sq_go 42 rfl rfl rfl (q_net ty4 rfl rfl) <|
      sq_end) rfl rfl ?_
    clear hF; intro a hF
    refine wpq_nil ?_
    clear hS; intro w hS
    refine hK16 _ _ ?_
    clear hK16
    refine wp_if hF rfl (fun hc4 => ?_) (fun hc4 => ?_)
    ·(try simp only [Bool.or_eq_true, Bool.and_eq_true, Bool.or_eq_false_iff, Bool.and_eq_false_iff, decide_eq_true_eq, decide_eq_false_iff_not, Bool.not_eq_true', Bool.not_eq_false'] at hc4)
     have hdf := Gu.dif_t (by omega) hc4
     refine wp_seq_k ?_; intro K17 hK17
     refine regl ?_
     refine wpl_sq hF hS (sq rfl (q_buildP (places := [(0, 1), (1, 1), (2, 1)]) (cells := [.slice none 0 0, .slice none 0 0, .slice none 0 0]) ty61 kQ rfl (by rfl)) <|
       sq_end) ?_
     clear hF hS; intro a w hF hS
     refine wpl_ef hF hS rfl (ef_storeW ty61 0 rfl rfl rfl rfl bQ (oc_cons rfl (oc_cons rfl (oc_cons rfl oc_nil))) bQ) ?_
     clear hF hS; rintro _ _ _ a w ⟨rfl, rfl, rfl⟩ hF hS
     replace hS : St _ [_, _] [_, _] _ := hS
     refine wpl_sq hF hS (sq rfl (q_assign rfl) <|
       sq_end) ?_
     clear hF hS; intro a w hF hS
     refine wpList_nil ?_
     refine hK17 _ _ ?_
     clear hK17
     refine wp_ret ?_
     replace hS := hS.zone00
     exact fn_ret (rs := [.cell 6 61, .tmp 7]) rfl hF hS (vs := [_, _]) ⟨⟨_, _, _, _, _, _, _, rfl, List.mem_of_getElem? (i := 0) rfl, ty61, .inl ⟨rfl, bQ, rfl⟩⟩, rfl, trivial⟩ (zs' := [fun _ => none]) (hs' := []) (List.singleton_sublist.2 (by simp)) zQ (pr_of (x := ([], [], [], 16)) ⟨_, _, _, _, rfl, sl_nil, sl_nil, sl_nil, rfl, rfl⟩ (Gu.pv_3 hft hc2 (by omega) hdf))
    ·(try simp only [Bool.or_eq_true, Bool.and_eq_true, Bool.or_eq_false_iff, Bool.and_eq_false_iff, decide_eq_true_eq, decide_eq_false_iff_not, Bool.not_eq_true', Bool.not_eq_false'] at hc4)
     have hdf := Gu.dif_f (by omega) hc4
     refine wp_skip ?_
     refine hK14 _ _ ?_
     clear hK14
     refine reg hF hS (sq rfl (q_addi rfl rfl (by omega)) <|
       sq rfl (q_move rfl) <|
       sq_end) ?_
     clear hF hS; intro a w hF hS
     refine ⟨(i + 1), ?_, ?_, hF.sub ⟨rfl, rfl, rfl, rfl, rfl, rfl, rfl, trivial⟩, ?_⟩
     ·(try dsimp only); omega
     ·refine ⟨by omega, by omega, fun j hj => ?_⟩
      by_cases hji : j = i.toNat
      ·subst hji; exact hdf
      ·exact hno j (by omega)
     ·exact hS
   ·refine wp_exit ?_
    refine hK10 _ _ ?_
    clear hK10
    refine wp_seq_k ?_; intro K18 hK18
    refine regl ?_
    refine wpl_sq hF hS (sq rfl (q_move rfl) <|
      sq rfl (q_move rfl) <|
      sq rfl (q_move rfl) <|
      sq_end) ?_
    clear hF hS; intro a w hF hS
    refine wpl_ef hF hS rfl (ef_call fn71 rfl (fun w hS => cloneb_ct _ _ (by first | with_reducible assumption | omega) w (Sl.mono (hS.le zin0) hb))) ?_
    clear hF hS; rintro v10 _ _ a w ⟨_, _, rfl, rfl, ⟨z11, hz12, rfl, rfl⟩⟩ hF hS
    replace hS : St _ [_, _, _] [_, _] _ := hS
    refine wpl_sq hF hS (sq rfl (q_buildS1 ty61 3 kQ rfl rfl (oc_cons (sl_one' hz6) (oc_cons (sl_one' hz9) (oc_cons (sl_one' hz12) oc_nil))) rfl rfl) <|
      sq_end) ?_
    clear hF hS; intro a w hF hS
    refine wpl_ef hF hS rfl (ef_storeW ty61 0 rfl rfl rfl rfl bQ (oc_cons (sl_one' hz6) (oc_cons (sl_one' hz9) (oc_cons (sl_one' hz12) oc_nil))) bQ) ?_
    clear hF hS; rintro _ _ _ a w ⟨rfl, rfl, rfl⟩ hF hS
    replace hS : St _ [_, _, _] [_, _] _ := hS
    refine wpl_sq hF hS (sq rfl (q_assign rfl) <|
      sq_end) ?_
    clear hF hS; intro a w hF hS
    refine wpList_nil ?_
    refine hK18 _ _ ?_
    clear hK18
    refine wp_ret ?_
    obtain ⟨zu, hzu, hS⟩ := hS.union
    exact fn_ret (rs := [.cell 6 61, .tmp 7]) rfl hF hS (vs := [_, _]) ⟨⟨_, _, _, _, _, _, _, rfl, List.mem_of_getElem? (i := 0) rfl, ty61, .inl ⟨rfl, bQ, rfl⟩⟩, rfl, trivial⟩ (zs' := [zu]) (hs' := []) (List.singleton_sublist.2 (by simp)) zQ (pr_of (x := (Gu.gl xs xb bs, Gu.cls xb ks, bs, 0)) ⟨_, _, _, zu, rfl, Sl.mono (hzu _ (by simp)) hz6, Sl.mono (hzu _ (by simp)) hz9, Sl.mono (hzu _ (by simp)) hz12, rfl, rfl⟩ (Gu.pv_4 hft hc2 (fun j hj => hno j (by omega))))
end Go.Proofs.Ytcbjemjohacbpaa
