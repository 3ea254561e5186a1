/- A text of a proof over this seat: walks over the program's functions and the plain laws that they need. -/
import Derived.Test.YtcbjemjohacbpaaGg9
import Derived.Test.YtcbjemjohacbpaaGuA
import Derived.Test.YtcbjemjohacbpaaFwB
set_option linter.all false
namespace Go.Proofs.Ytcbjemjohacbpaa
open Go.Fw
theorem ty43 : Tf Try.prog 43 (.slice 22) 1 24 (Value.slice none 0 0) := ⟨Try.underlying43, by kernel_rfl⟩
theorem fn29 : FnOk Try.prog 29 := ⟨_, Try.func29, rfl, by kernel_rfl⟩
theorem fn32 : FnOk Try.prog 32 := ⟨_, Try.func32, rfl, by kernel_rfl⟩
theorem fn62 : FnOk Try.prog 62 := ⟨_, Try.func62, rfl, by kernel_rfl⟩
theorem fn63 : FnOk Try.prog 63 := ⟨_, Try.func63, rfl, by kernel_rfl⟩
/-- Together's lists. -/
def Gu.togs (xs : List Int) (xb bs : List Bool) : List (List Int) := Gu.tog xs xb (Gu.gl xs xb bs) (Gu.gl xs xb bs).length
theorem Gu.gl_mem {xs : List Int} {xb bs : List Bool} : ∀ x ∈ Gu.gl xs xb bs, x ∈ xs := fun x h => by
 unfold Gu.gl at h
 split at h
 ·exact Gu.minl_mem x h
 ·cases h
theorem Gu.gl_none {xs : List Int} {xb bs : List Bool} (h : Gu.fitsB xs.length xb bs = false) : Gu.gl xs xb bs = [] := by unfold Gu.gl; rw [if_neg (by rw [h]; decide)]

set_option maxRecDepth 4000 in
set_option maxHeartbeats 2000000 in
theorem together1_ct (i y : Int) (e1 : Nat) (nv sv mv : Value) (xs : List Int) (xb : List Bool) (hy : y ∈ xs) (hlb : xb.length = xs.length) (w : World) (hb1 : w.heap[e1]? = some (.cells [nv, sv, mv].toArray 34 (0, 0))) (hnv : nv.oneCell' = true) (hxs : Sl encI (ph w) sv xs) (hxb : Sl encT (ph w) mv xb) : Ct Try.prog 63 [vi i, vi y, .pointer (some ⟨e1, 0, none⟩)] w (fun r _ _ => r = .bool (Gu.bld xs xb y)) := by
 refine fn_enter Try.func63 rfl Try.ntmps63 (Nat.le_of_ble_eq_true rfl) fun a hF hS => ?_
 have hix := Gu.ixF_in hy
 refine wp_seq_k ?_; intro K1 hK1
 refine reg hF hS (sq rfl (q_assign rfl) <|
   sq_end) ?_
 clear hF hS; intro a w hF hS
 refine hK1 _ _ ?_
 clear hK1
 refine wp_seq_k ?_; intro K2 hK2
 refine regd mixed kQ hF hS (sq rfl (q_fieldAddr ty34 rfl rfl (s' := 0) kQ) <|
   sq rfl (q_ld_old1 ty23 rfl hb1 rfl rfl) <|
   sq rfl (q_ld_oldW ty34 rfl hb1 bQ rfl) <|
   sq rfl (q_move rfl) <|
   sq rfl (q_call fn29 rfl (fun w hS => lix_ct _ _ _ _ _ _ w hnv (Sl.mono (hS.le zin0) hxs) (Sl.mono (hS.le zin0) hxb)) (fun _ _ _ h => h)) <|
   sq rfl (q_idx_sl ty23 ty4 hxb rfl rfl (by omega)) <|
   sq rfl (q_ld_T ty4 hxb zin0 rfl rfl (by omega)) <|
   sq rfl (q_assign rfl) <|
   sq_end) ?_
 clear hF hS; intro a w hF hS
 refine hK2 _ _ ?_
 clear hK2
 refine wp_ret ?_
 exact fn_ret (rs := [.tmp 5]) rfl hF hS (vs := [_]) ⟨rfl, trivial⟩ zQ zQ (rfl)

set_option maxRecDepth 4000 in
set_option maxHeartbeats 2000000 in
theorem together_ct (xN xS xB : Value) (xs : List Int) (xb : List Bool) (v : Value) (bs : List Bool) (hl : xs.length < 1048576) (w : World) (hxn : xN.oneCell' = true) (hxs : Sl encI (ph w) xS xs) (hxb : Sl encT (ph w) xB xb) (hb : Sl encT (ph w) v bs) : Ct Try.prog 22 [.agg [xN, xS, xB].toArray, v] w (SlE (encSl encI) (Gu.togs xs xb bs) (Gu.ge xs xb bs)) := by
 refine fn_enter Try.func22 rfl Try.ntmps22 (Nat.le_of_ble_eq_true rfl) fun a hF hS => ?_
 have hbl := hb.1
 have hsl := hxs.1
 have htl := hxb.1
 refine wp_seq_k ?_; intro K1 hK1
 refine regl ?_
 refine wpl_ef hF hS rfl (ef_boxA rfl) ?_
 clear hF hS; rintro _ _ _ a w ⟨b1, rfl, rfl, rfl⟩ hF hS
 refine wpl_sq hF hS (sq rfl (q_assign rfl) <|
   sq rfl (q_assign rfl) <|
   sq_end) ?_
 clear hF hS; intro a w hF hS
 refine wpList_nil ?_
 refine hK1 _ _ ?_
 clear hK1
 refine wp_seq_k ?_; intro K2 hK2
 refine regl ?_
 refine wpl_sq hF hS (sq rfl (q_ld_blkW ty34 0 rfl rfl bQ rfl) <|
   sq rfl (q_move rfl) <|
   sq_end) ?_
 clear hF hS; intro a w hF hS
 refine wpl_ef hF hS rfl (ef_call fn13 rfl (fun w hS => guilty_ct _ _ _ _ _ _ _ (by first | with_reducible assumption | omega) w hxn (Sl.mono (hS.le zin0) hxs) (Sl.mono (hS.le zin0) hxb) (Sl.mono (hS.le zin0) hb))) ?_
 clear hF hS; rintro _ _ _ a w ⟨_, _, rfl, rfl, ⟨v3, z4, hz5, rfl, rfl, rfl⟩⟩ hF hS
 replace hS : St _ [_] [_] _ := hS
 refine wpl_sq hF hS (sq rfl (q_move rfl) <|
   sq rfl (q_extract rfl rfl) <|
   sq rfl (q_extract rfl rfl) <|
   sq rfl (q_assign rfl) <|
   sq rfl (q_assign rfl) <|
   sq_end) ?_
 clear hF hS; intro a w hF hS
 refine wpList_nil ?_
 refine hK2 _ _ ?_
 clear hK2
 refine wp_seq_k ?_; intro K3 hK3
 refine wp_seq_k ?_; intro K4 hK4
 refine reg hF hS (sq rfl (q_move rfl) <|
   sq rfl (q_nei rfl rfl) <|
   sq_end) ?_
 clear hF hS; intro a w hF hS
 refine hK4 _ _ ?_
 clear hK4
 refine wp_ifn hF rfl (fun hc1 => ?_) (fun hc1 => ?_)
 ·have hft := Gu.ge_ne hc1
  refine wp_seq_k ?_; intro K5 hK5
  refine reg hF hS (sq rfl (q_move rfl) <|
    sq rfl (q_assign rfl) <|
    sq rfl (q_assign rfl) <|
    sq_end) ?_
  clear hF hS; intro a w hF hS
  refine hK5 _ _ ?_
  clear hK5
  refine wp_ret ?_
  replace hS := hS.zone00
  exact fn_ret (rs := [.tmp 4, .tmp 5]) rfl hF hS (vs := [_, _]) ⟨rfl, rfl, trivial⟩ (zs' := [fun _ => none]) (hs' := []) (List.singleton_sublist.2 (by simp)) zQ (se_of ⟨_, _, sl_nil (z := fun _ => none), rfl, rfl, rfl⟩ (by unfold Gu.togs; rw [Gu.gl_none hft]; rfl) rfl)
 ·have hft := Gu.ge_eq hc1
  have hfu := Gu.fits_use hft
  have hgl := Gu.gl_len xs xb bs
  refine wp_skip ?_
  refine hK3 _ _ ?_
  clear hK3
  refine wp_seq_k ?_; intro K6 hK6
  refine reg hF hS (sq rfl (q_assign rfl) <|
    sq_end) ?_
  clear hF hS; intro a w hF hS
  replace hS := hS.nilRow 22 1
  refine hK6 _ _ ?_
  clear hK6
  refine wp_seq_k ?_; intro K7 hK7
  refine wp_seq_k ?_; intro K8 hK8
  refine reg hF hS (sq rfl (q_move rfl) <|
    sq rfl (q_len_sl ty22 hz5 rfl) <|
    sq rfl (q_move rfl) <|
    sq_end) ?_
  clear hF hS; intro a w hF hS
  refine hK8 _ _ ?_
  clear hK8
  refine wp_block ?_
  obtain ⟨hs0, hhs0, hS⟩ : ∃ h, h = _ ∧ St _ _ h _ := ⟨_, rfl, hS⟩
  obtain ⟨zs0, hzs0, hS⟩ : ∃ h, h = _ ∧ St _ h _ _ := ⟨_, rfl, hS⟩
  replace hS := hS.zone00
  refine wp_loopz (γ := Value × PH × List Value × Int) ((Value.slice none 0 0), fun _ => none, [], 0) (fun (gg : Value × PH × List Value × Int) => match gg with | (u, z, vs, k) => z :: zs0) (fun (gg : Value × PH × List Value × Int) => match gg with | (u, z, vs, k) => [(8, u), (24, vi k)]) [(2, _), (22, _), (23, _)] (fun (gg : Value × PH × List Value × Int) => match gg with | (u, z, vs, k) => (hs0.set 0 (.row u 22 1 vs.length vs))) (fun (gg : Value × PH × List Value × Int) => match gg with | (u, z, vs, k) => 0 ≤ k ∧ k ≤ (Gu.gl xs xb bs).length ∧ Sl2 encI z vs (Gu.tog xs xb (Gu.gl xs xb bs) k.toNat)) (fun (gg : Value × PH × List Value × Int) => match gg with | (u, z, vs, k) => ((Gu.gl xs xb bs).length - k).toNat) (hF.sub ⟨rfl, rfl, rfl, rfl, rfl, trivial⟩) (by subst hhs0; exact hS) (by exact ⟨Int.le_refl _, by omega, trivial⟩) ?_
  clear hF hS; rintro ⟨u, z, vs, k⟩ a w hfact hF hS
  subst hhs0; subst hzs0; (try dsimp only at hfact); (try dsimp only at hF); (try dsimp only at hS)
  obtain ⟨hk0, hk1, h2⟩ := hfact
  replace hS : St _ [_, _] [_, _] _ := hS
  have hbw := Gu.blw_len xs ((Gu.gl xs xb bs).getD k.toNat 0)
  have hsl2 := h2.len
  have htl2 := Gu.tog_len xs xb (Gu.gl xs xb bs) k.toNat
  refine wp_seq_k ?_; intro K9 hK9
  refine reg hF hS (sq rfl (q_lti rfl rfl) <|
    sq_end) ?_
  clear hF hS; intro a w hF hS
  refine hK9 _ _ ?_
  clear hK9
  refine wp_seq_k ?_; intro K10 hK10
  refine wp_ifd hF rfl (fun hc2 => ?_) (fun hc2 => ?_)
  ·have hgm := Gu.gl_mem _ (getD_mem (xs := (Gu.gl xs xb bs)) (k := k.toNat) (by omega))
   refine wp_skip ?_
   refine hK10 _ _ ?_
   clear hK10
   refine wp_seq_k ?_; intro K11 hK11
   refine wp_block ?_
   refine wp_seq_k ?_; intro K12 hK12
   refine reg hF hS (sq rfl (q_idx_sl ty22 ty3 hz5 rfl rfl (by omega)) <|
     sq rfl (q_ld_I ty3 hz5 (.inr (by simp)) rfl rfl (by omega)) <|
     sq rfl (q_assign rfl) <|
     sq_end) ?_
   clear hF hS; intro a w hF hS
   refine hK12 _ _ ?_
   clear hK12
   refine wp_seq_k ?_; intro K13 hK13
   refine regl ?_
   refine wpl_sq hF hS (sq rfl (q_ld_blkW ty34 1 rfl rfl bQ rfl) <|
     sq rfl (q_move rfl) <|
     sq_end) ?_
   clear hF hS; intro a w hF hS
   refine wpl_ef hF hS rfl (ef_call fn62 rfl (fun w hS => lbelow_ct _ _ _ _ _ _ (by first | with_reducible assumption | omega) w hxn (Sl.mono (hS.le zin0) hxs) (Sl.mono (hS.le zin0) hxb))) ?_
   clear hF hS; rintro v7 _ _ a w ⟨_, _, rfl, rfl, ⟨z8, hz9, rfl, rfl⟩⟩ hF hS
   replace hS : St _ [_, _, _] [_, _] _ := hS
   refine wpl_sq hF hS (sq rfl (q_assign rfl) <|
     sq_end) ?_
   clear hF hS; intro a w hF hS
   refine wpList_nil ?_
   refine hK13 _ _ ?_
   clear hK13
   refine wp_seq_k ?_; intro K14 hK14
   refine regl ?_
   refine wpl_sq hF hS (sq rfl (q_move rfl) <|
     sq rfl (q_mkf rfl rfl) <|
     sq_end) ?_
   clear hF hS; intro a w hF hS
   refine wpl_ef hF hS rfl (ef_call fn52 rfl (fun w hS => filter_ct _ _ _ (fun _ y => y ∈ xs ∧ xb.length = xs.length) (fun _ y => Gu.bld xs xb y) (fun i hi => ⟨Gu.blw_mem _ (getD_mem hi), hfu.2.1⟩) (by omega) w (Sl.mono (hS.le (.inr (by simp))) hz9) ⟨63, [], [_], rfl, fn63, fun w' hle x0 x1 hq => together1_ct _ _ _ _ _ _ _ _ hq.1 hq.2 w' (hle _ _ (own_box hS 1 rfl)) hxn (Sl.mono (PH.le_tr (hS.le zin0) hle) hxs) (Sl.mono (PH.le_tr (hS.le zin0) hle) hxb)⟩)) ?_
   clear hF hS; rintro v10 _ _ a w ⟨_, _, rfl, rfl, ⟨z11, hz12, rfl, rfl⟩⟩ hF hS
   replace hS : St _ [_, _, _, _] [_, _] _ := hS
   refine wpl_sq hF hS (sq rfl (q_assign rfl) <|
     sq_end) ?_
   clear hF hS; intro a w hF hS
   refine wpList_nil ?_
   refine hK14 _ _ ?_
   clear hK14
   refine wp_seq_k ?_; intro K15 hK15
   refine regl ?_
   refine wpl_sq hF hS (sq rfl (q_move rfl) <|
     sq rfl (q_len_sl ty22 hz9 rfl) <|
     sq rfl (q_gti rfl rfl) <|
     sq rfl (q_move rfl) <|
     sq_end) ?_
   clear hF hS; intro a w hF hS
   refine wpl_and 3 37 5 hF hS rfl rfl rfl rfl rfl (fun hg => have hg := (by first | exact of_decide_eq_true hg | exact hg); sq_go 37 rfl rfl rfl (q_move rfl) <|
     sq_go 37 rfl rfl rfl (q_len_sl ty22 hz12 rfl) <|
     sq_go 37 rfl rfl rfl (q_move rfl) <|
     sq_go 37 rfl rfl rfl (q_len_sl ty22 hz9 rfl) <|
     sq_go 37 rfl rfl rfl (q_eqi rfl rfl) <|
     sq_end) rfl rfl ?_
   clear hF hS; intro a w hF hS
   refine wpList_nil ?_
   refine hK15 _ _ ?_
   clear hK15
   refine wp_if hF rfl (fun hc3 => ?_) (fun hc3 => ?_)
   ·(try simp only [Bool.or_eq_true, Bool.and_eq_true, Bool.or_eq_false_iff, Bool.and_eq_false_iff, decide_eq_true_eq, decide_eq_false_iff_not, Bool.not_eq_true', Bool.not_eq_false'] at hc3)
    have hok : Gu.okT xs xb ((Gu.gl xs xb bs).getD k.toNat 0) = true := by rw [← Gu.okT_prog]; simpa only [Bool.and_eq_true, decide_eq_true_eq] using hc3
    have hrx := sl_rng hxs
    have hrq : ∀ x ∈ ((Gu.gl xs xb bs).getD k.toNat 0) :: Gu.blw xs ((Gu.gl xs xb bs).getD k.toNat 0), -9223372036854775808 ≤ x ∧ x ≤ 9223372036854775807 := fun x hx => by
     rcases List.mem_cons.1 hx with rfl | hx
     ·exact hrx _ hgm
     ·exact hrx _ (Gu.blw_mem _ hx)
    refine regl ?_
    refine wpl_sq hF hS (sq rfl (q_move rfl) <|
      sq rfl (q_move rfl) <|
      sq_end) ?_
    clear hF hS; intro a w hF hS
    refine wpl_ef hF hS rfl (ef_bsliceA ty22 ty3 rfl rfl oQ (by decide) rfl rfl) ?_
    clear hF hS; rintro v13 _ _ a w ⟨rfl, rfl⟩ hF hS
    replace hS : St _ [_, _, _, _] [_, _, _] _ := hS
    refine wpl_sq hF hS (sq rfl (q_move rfl) <|
      sq_end) ?_
    clear hF hS; intro a w hF hS
    refine wpl_ef hF hS rfl (ef_append ty22 ty3 0 rfl rfl rfl (src_slV ty22 hz9 (.inr (by simp))) bQ rfl (by decide)) ?_
    clear hF hS; rintro v15 _ _ a w ⟨rfl, rfl⟩ hF hS
    replace hS : St _ [_, _, _, _] [_, _, _] _ := hS
    have hoc18 := (oc_cons (row_one (hS.own _ (List.mem_of_getElem? (i := 0) rfl)).1) oc_nil)
    refine wpl_ef hF hS rfl (ef_bsliceA ty43 ty22 rfl rfl (oc_cons (row_one (hS.own _ (List.mem_of_getElem? (i := 0) rfl)).1) oc_nil) (by decide) rfl rfl) ?_
    clear hF hS; rintro v16 _ _ a w ⟨rfl, rfl⟩ hF hS
    replace hS : St _ [_, _, _, _] [_, _, _, _] _ := hS
    refine wpl_ef hF hS rfl (ef_append ty43 ty22 2 rfl rfl rfl (src_row ty43 (k := 0) rfl hoc18) bQ rfl (by decide)) ?_
    clear hF hS; rintro v19 _ _ a w ⟨rfl, rfl⟩ hF hS
    replace hS : St _ [_, _, _, _] [_, _, _, _] _ := hS
    refine wpl_sq hF hS (sq rfl (q_assign rfl) <|
      sq_end) ?_
    clear hF hS; intro a w hF hS
    refine wpList_nil ?_
    refine hK11 _ _ ?_
    clear hK11
    refine reg hF hS (sq rfl (q_addi rfl rfl (by omega)) <|
      sq rfl (q_move rfl) <|
      sq_end) ?_
    clear hF hS; intro a w hF hS
    replace hS := hS.perm (.swap _ _ _)
    obtain ⟨zb, hzb, hS⟩ := St.freezeV (f := vi) (p := fun x => -9223372036854775808 ≤ x ∧ x ≤ 9223372036854775807) (xs := ((Gu.gl xs xb bs).getD k.toNat 0) :: Gu.blw xs ((Gu.gl xs xb bs).getD k.toNat 0)) hS (by first | (simp; omega) | (simp; done)) (by first | omega | (simp; omega)) hrq
    obtain ⟨zu, hzu, hS⟩ := hS.union
    replace hS := hS.keep (sQ.n.n.n.n.k) (sQ.n)
    refine ⟨(v19, zu, vs ++ [v15], k + 1), ?_, ?_, hF.sub ⟨rfl, rfl, rfl, rfl, rfl, trivial⟩, ?_⟩
    ·(try dsimp only); omega
    ·refine ⟨by omega, by omega, ?_⟩
     rw [show (k + 1).toNat = k.toNat + 1 by omega, Gu.tog_step hok]
     exact (h2.mono (hzu z (by simp))).snoc (hzb.mono (hzu zb (by simp)))
    ·dsimp only; rw [List.length_append]; exact hS
   ·(try simp only [Bool.or_eq_true, Bool.and_eq_true, Bool.or_eq_false_iff, Bool.and_eq_false_iff, decide_eq_true_eq, decide_eq_false_iff_not, Bool.not_eq_true', Bool.not_eq_false'] at hc3)
    have hok : Gu.okT xs xb ((Gu.gl xs xb bs).getD k.toNat 0) = false := by rw [← Gu.okT_prog]; simpa only [Bool.and_eq_false_iff, decide_eq_false_iff_not] using hc3
    refine wp_skip ?_
    refine hK11 _ _ ?_
    clear hK11
    refine reg hF hS (sq rfl (q_addi rfl rfl (by omega)) <|
      sq rfl (q_move rfl) <|
      sq_end) ?_
    clear hF hS; intro a w hF hS
    replace hS := hS.keep (sQ.n.n) sQ
    refine ⟨(u, z, vs, k + 1), ?_, ?_, hF.sub ⟨rfl, rfl, rfl, rfl, rfl, trivial⟩, ?_⟩
    ·(try dsimp only); omega
    ·refine ⟨by omega, by omega, ?_⟩
     rw [show (k + 1).toNat = k.toNat + 1 by omega, Gu.tog_stay hok]
     exact h2
    ·exact hS
  ·obtain rfl : k = (Gu.gl xs xb bs).length := by omega
   rw [Int.toNat_natCast] at h2
   refine wp_exit ?_
   refine hK7 _ _ ?_
   clear hK7
   refine wp_seq_k ?_; intro K16 hK16
   refine reg hF hS (sq rfl (q_move rfl) <|
     sq rfl (q_assign rfl) <|
     sq rfl (q_assign rfl) <|
     sq_end) ?_
   clear hF hS; intro a w hF hS
   refine hK16 _ _ ?_
   clear hK16
   refine wp_ret ?_
   obtain ⟨zr, hzr, hS⟩ := St.freezeSl (E := encI) hS (z' := z) (by simp) h2.len (by omega) h2
   exact fn_ret (rs := [.tmp 4, .tmp 5]) rfl hF hS (vs := [_, _]) ⟨rfl, rfl, trivial⟩ (zs' := [zr]) (hs' := []) (List.singleton_sublist.2 (by simp)) zQ (se_of ⟨_, _, hzr, rfl, rfl, rfl⟩ rfl (by unfold Gu.ge; rw [hft]; rfl))

end Go.Proofs.Ytcbjemjohacbpaa
