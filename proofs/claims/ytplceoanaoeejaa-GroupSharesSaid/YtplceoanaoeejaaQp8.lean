/- A text of a proof over this seat: walks over the program's functions and the plain laws that they need. -/
import Derived.Test.YtplceoanaoeejaaQp7
import Derived.Test.YtplceoanaoeejaaGpA
import Derived.Test.YtplceoanaoeejaaFwC
import Derived.Test.YtplceoanaoeejaaFwB
set_option linter.all false
namespace Go.Proofs.Ytplceoanaoeejaa
open Go.Fw
theorem fn42 : FnOk Try.prog 42 := ⟨_, Try.func42, rfl, by kernel_rfl⟩
theorem fn43 : FnOk Try.prog 43 := ⟨_, Try.func43, rfl, by kernel_rfl⟩

set_option maxRecDepth 4000 in
set_option maxHeartbeats 2000000 in
theorem shares1_ct (s : Int) (e1 : Nat) (xN xS xB : Value) (xs : List Int) (xb : List Bool) (w : World) (hb1 : w.heap[e1]? = some (.cells [xN, xS, xB].toArray 31 (0, 0))) (hxn : xN.oneCell' = true) (hxs : Sl encI (ph w) xS xs) (hxb : Sl encT (ph w) xB xb) : Ct Try.prog 42 [vi s, .pointer (some ⟨e1, 0, none⟩)] w (fun r _ _ => r = .bool (decide (Gp.ix xs s < 0))) := by
 refine fn_enter Try.func42 rfl Try.ntmps42 (Nat.le_of_ble_eq_true rfl) fun a hF hS => ?_
 refine wp_seq_k ?_; intro K1 hK1
 refine reg hF hS (sq rfl (q_assign rfl) <|
   sq_end) ?_
 clear hF hS; intro a w hF hS
 refine hK1 _ _ ?_
 clear hK1
 refine wp_seq_k ?_; intro K2 hK2
 refine reg hF hS (sq rfl (q_ld_oldW ty31 rfl hb1 bQ rfl) <|
   sq rfl (q_move rfl) <|
   sq rfl (q_call fn30 rfl (fun w hS => lix_ct _ _ _ _ _ _ w hxn (Sl.mono (hS.le zin0) hxs) (Sl.mono (hS.le zin0) hxb)) (fun _ _ _ h => h)) <|
   sq rfl (q_lti rfl rfl) <|
   sq rfl (q_assign rfl) <|
   sq_end) ?_
 clear hF hS; intro a w hF hS
 refine hK2 _ _ ?_
 clear hK2
 refine wp_ret ?_
 exact fn_ret (rs := [.tmp 3]) rfl hF hS (vs := [_]) ⟨rfl, trivial⟩ zQ zQ (rfl)

set_option maxRecDepth 4000 in
set_option maxHeartbeats 2000000 in
theorem shares_ct (xN xS xB : Value) (xs : List Int) (xb : List Bool) (base : Int) (cV : Value) (ch : List Int) (v1 : Value) (asked : List Int) (v2 : Value) (known : List Int) (hl : asked.length < 1048576) (w : World) (hxn : xN.oneCell' = true) (hxs : Sl encI (ph w) xS xs) (hxb : Sl encT (ph w) xB xb) (hc : Sl encI (ph w) cV ch) (ha : Sl encI (ph w) v1 asked) (hk : Sl encI (ph w) v2 known) : Ct Try.prog 22 [.agg [xN, xS, xB].toArray, .agg [vi base, cV].toArray, v1, v2] w (SlE encI (Gp.sL xs xb base ch asked known) (Gp.sE xs xb base ch asked known)) := by
 refine fn_enter Try.func22 rfl Try.ntmps22 (Nat.le_of_ble_eq_true rfl) fun a hF hS => ?_
 have hsl := hxs.1
 have har := sl_rng ha
 refine wp_seq_k ?_; intro K1 hK1
 refine regl ?_
 refine wpl_ef hF hS rfl (ef_boxA rfl) ?_
 clear hF hS; rintro _ _ _ a w ⟨b1, rfl, rfl, rfl⟩ hF hS
 refine wpl_ef hF hS rfl (ef_boxA rfl) ?_
 clear hF hS; rintro _ _ _ a w ⟨b2, rfl, rfl, rfl⟩ hF hS
 refine wpl_sq hF hS (sq rfl (q_assign rfl) <|
   sq rfl (q_assign rfl) <|
   sq_end) ?_
 clear hF hS; intro a w hF hS
 refine wpList_nil ?_
 refine hK1 _ _ ?_
 clear hK1
 refine wp_seq_k ?_; intro K2 hK2
 refine wp_seq_k ?_; intro K3 hK3
 refine reg hF hS (sq rfl (q_ld_blkW ty31 1 rfl rfl bQ rfl) <|
   sq rfl (q_ld_blkW ty35 0 rfl rfl bQ rfl) <|
   sq rfl (q_call fn15 rfl (fun w hS => valid_ct _ _ _ _ _ _ _ _ w hxn (Sl.mono (hS.le zin0) hxs) (Sl.mono (hS.le zin0) hxb) (Sl.mono (hS.le zin0) hc)) (fun _ _ _ h => h)) <|
   sq rfl (q_assign rfl) <|
   sq_end) ?_
 clear hF hS; intro a w hF hS
 refine hK3 _ _ ?_
 clear hK3
 refine wp_seq_k ?_; intro K4 hK4
 refine reg hF hS (sq rfl (q_move rfl) <|
   sq rfl (q_nei rfl rfl) <|
   sq_end) ?_
 clear hF hS; intro a w hF hS
 refine hK4 _ _ ?_
 clear hK4
 refine wp_ifn hF rfl (fun hc1 => ?_) (fun hc1 => ?_)
 ·have hse : (Gp.sE xs xb base ch asked known) = Gp.vl xs xb base ch := by unfold Gp.sE; rw [if_pos hc1]
  refine wp_seq_k ?_; intro K5 hK5
  refine reg hF hS (sq rfl (q_move rfl) <|
    sq rfl (q_assign rfl) <|
    sq rfl (q_assign rfl) <|
    sq_end) ?_
  clear hF hS; intro a w hF hS
  refine hK5 _ _ ?_
  clear hK5
  refine wp_ret ?_
  replace hS := hS.zone00
  exact fn_ret (rs := [.tmp 8, .tmp 9]) rfl hF hS (vs := [_, _]) ⟨rfl, rfl, trivial⟩ (zs' := [_]) (hs' := []) (List.singleton_sublist.2 (by simp)) zQ (se_of ⟨_, _, (sl_nil (z := fun _ => none)), rfl, rfl, rfl⟩ (by unfold Gp.sL; rw [if_neg (by rw [hse]; exact hc1)]) (hse.symm))
 ·refine wp_skip ?_
  refine hK2 _ _ ?_
  clear hK2
  refine wp_seq_k ?_; intro K6 hK6
  refine reg hF hS (sq rfl (q_mkf rfl rfl) <|
    sq rfl (q_assign rfl) <|
    sq_end) ?_
  clear hF hS; intro a w hF hS
  refine hK6 _ _ ?_
  clear hK6
  refine wp_seq_k ?_; intro K7 hK7
  refine wp_seq_k ?_; intro K8 hK8
  refine regl ?_
  refine wpl_sq hF hS (sq rfl (q_move rfl) <|
    sq rfl (q_move rfl) <|
    sq rfl (q_call fn40 rfl (fun w hS => contf_ct _ _ _ (fun _ => True) (fun s => decide (Gp.ix xs s < 0)) (fun _ _ => trivial) w (Sl.mono (hS.le zin0) ha) ⟨42, [], [_], rfl, fn42, fun w' hle x0 hq => shares1_ct _ _ _ _ _ _ _ w' (hle _ _ (own_box hS 1 rfl)) hxn (Sl.mono (PH.le_tr (hS.le zin0) hle) hxs) (Sl.mono (PH.le_tr (hS.le zin0) hle) hxb)⟩) (fun _ _ _ h => h)) <|
    sq rfl (q_move rfl) <|
    sq_end) ?_
  clear hF hS; intro a w hF hS
  refine wpl_or 3 25 3 hF hS rfl rfl rfl rfl rfl (fun hg => have hg := hg; sq_go 25 rfl rfl rfl (q_move rfl) <|
    sq_go 25 rfl rfl rfl (q_move rfl) <|
    sq_go 25 rfl rfl rfl (q_call fn40 rfl (fun w hS => contf_ct _ _ _ (fun _ => True) (fun s => decide (Gp.ix xs s < 0)) (fun _ _ => trivial) w (Sl.mono (hS.le zin0) hk) ⟨42, [], [_], rfl, fn42, fun w' hle x0 hq => shares1_ct _ _ _ _ _ _ _ w' (hle _ _ (own_box hS 1 rfl)) hxn (Sl.mono (PH.le_tr (hS.le zin0) hle) hxs) (Sl.mono (PH.le_tr (hS.le zin0) hle) hxb)⟩) (fun _ _ _ h => h)) <|
    sq_end) rfl rfl ?_
  clear hF hS; intro a w hF hS
  refine wpList_nil ?_
  refine hK8 _ _ ?_
  clear hK8
  refine wp_if hF rfl (fun hc2 => ?_) (fun hc2 => ?_)
  ·(try simp only [Bool.or_eq_true, Bool.and_eq_true, Bool.or_eq_false_iff, Bool.and_eq_false_iff, decide_eq_true_eq, decide_eq_false_iff_not, Bool.not_eq_true', Bool.not_eq_false'] at hc2)
   have hse : (Gp.sE xs xb base ch asked known) = 6 := by unfold Gp.sE; rw [if_neg (by simpa using hc1), if_pos hc2]
   refine wp_seq_k ?_; intro K9 hK9
   refine reg hF hS (sq rfl (q_assign rfl) <|
     sq rfl (q_assign rfl) <|
     sq_end) ?_
   clear hF hS; intro a w hF hS
   refine hK9 _ _ ?_
   clear hK9
   refine wp_ret ?_
   replace hS := hS.zone00
   exact fn_ret (rs := [.tmp 8, .tmp 9]) rfl hF hS (vs := [_, _]) ⟨rfl, rfl, trivial⟩ (zs' := [_]) (hs' := []) (List.singleton_sublist.2 (by simp)) zQ (se_of ⟨_, _, (sl_nil (z := fun _ => none)), rfl, rfl, rfl⟩ (by unfold Gp.sL; rw [if_neg (by rw [hse]; decide)]) (hse.symm))
  ·(try simp only [Bool.or_eq_true, Bool.and_eq_true, Bool.or_eq_false_iff, Bool.and_eq_false_iff, decide_eq_true_eq, decide_eq_false_iff_not, Bool.not_eq_true', Bool.not_eq_false'] at hc2)
   have hse : (Gp.sE xs xb base ch asked known) = 0 := by unfold Gp.sE; rw [if_neg (by simpa using hc1), if_neg (fun h => by rcases h with h | h; rw [hc2.1] at h; cases h; rw [hc2.2] at h; cases h)]
   refine wp_skip ?_
   refine hK7 _ _ ?_
   clear hK7
   refine wp_seq_k ?_; intro K10 hK10
   refine reg hF hS (sq rfl (q_assign rfl) <|
     sq_end) ?_
   clear hF hS; intro a w hF hS
   replace hS := hS.nilRow 3 1
   refine hK10 _ _ ?_
   clear hK10
   refine wp_seq_k ?_; intro K11 hK11
   refine wp_seq_k ?_; intro K12 hK12
   refine reg hF hS (sq rfl (q_move rfl) <|
     sq rfl (q_len_sl ty22 ha rfl) <|
     sq rfl (q_move rfl) <|
     sq_end) ?_
   clear hF hS; intro a w hF hS
   refine hK12 _ _ ?_
   clear hK12
   refine wp_block ?_
   obtain ⟨hs0, hhs0, hS⟩ : ∃ h, h = _ ∧ St _ _ h _ := ⟨_, rfl, hS⟩
   refine wp_loopx (γ := Value × Int) ((Value.slice none 0 0), 0) (fun (gg : Value × Int) => match gg with | (u, k) => [(12, u), (32, vi k)]) [(3, _), (5, _), (30, _), (31, _)] (fun (gg : Value × Int) => match gg with | (u, k) => (hs0.set 0 (.row u 3 1 (Gp.shr base known asked k.toNat).length ((Gp.shr base known asked k.toNat).map vi)))) (fun (gg : Value × Int) => match gg with | (u, k) => 0 ≤ k ∧ k ≤ asked.length) (fun (gg : Value × Int) => match gg with | (u, k) => (asked.length - k).toNat) (hF.sub ⟨rfl, rfl, rfl, rfl, rfl, rfl, trivial⟩) (by subst hhs0; exact hS) (by exact ⟨Int.le_refl _, by omega⟩) ?_
   clear hF hS; rintro ⟨u, k⟩ a w hfact hF hS
   subst hhs0; (try dsimp only at hfact); (try dsimp only at hF); (try dsimp only at hS)
   obtain ⟨hk0, hk1⟩ := hfact
   replace hS : St _ [] [_, _, _] _ := hS
   have hel := Gp.shr_len base known asked k.toNat
   have hrg : ∀ y ∈ Gp.shr base known asked k.toNat, -9223372036854775808 ≤ y ∧ y ≤ 9223372036854775807 := fun y hy => har y (Gp.shr_mem k.toNat (by omega) y hy)
   refine wp_seq_k ?_; intro K13 hK13
   refine reg hF hS (sq rfl (q_lti rfl rfl) <|
     sq_end) ?_
   clear hF hS; intro a w hF hS
   refine hK13 _ _ ?_
   clear hK13
   refine wp_seq_k ?_; intro K14 hK14
   refine wp_ifd hF rfl (fun hc3 => ?_) (fun hc3 => ?_)
   ·refine wp_skip ?_
    refine hK14 _ _ ?_
    clear hK14
    refine wp_seq_k ?_; intro K15 hK15
    refine wp_block ?_
    refine wp_seq_k ?_; intro K16 hK16
    refine reg hF hS (sq rfl (q_idx_sl ty22 ty3 ha rfl rfl (by omega)) <|
      sq rfl (q_ld_I ty3 ha zin0 rfl rfl (by omega)) <|
      sq rfl (q_assign rfl) <|
      sq_end) ?_
    clear hF hS; intro a w hF hS
    refine hK16 _ _ ?_
    clear hK16
    refine wp_seq_k ?_; intro K17 hK17
    refine regl ?_
    refine wpl_sq hF hS (sq rfl (q_move rfl) <|
      sq rfl (q_fieldAddr ty35 rfl rfl (s' := 0) kQ) <|
      sq rfl (q_ld_blk1 ty3 1 rfl rfl rfl rfl) <|
      sq rfl (q_nei rfl rfl) <|
      sq rfl (q_move rfl) <|
      sq_end) ?_
    clear hF hS; intro a w hF hS
    refine wpl_and 4 40 4 hF hS rfl rfl rfl rfl rfl (fun hg => have hg := (nd_true hg); sq_go 40 rfl rfl rfl (q_move rfl) <|
      sq_go 40 rfl rfl rfl (q_move rfl) <|
      sq_go 40 rfl rfl rfl (q_call fn43 rfl (fun w hS => cont_ct _ _ _ w (Sl.mono (hS.le zin0) hk)) (fun _ _ _ h => h)) <|
      sq_go 40 rfl rfl rfl (q_not rfl) <|
      sq_end) rfl rfl ?_
    clear hF hS; intro a w hF hS
    refine wpl_sq hF hS (sq rfl (q_move rfl) <|
      sq_end) ?_
    clear hF hS; intro a w hF hS
    refine wpl_and 10 46 4 hF hS rfl rfl rfl rfl rfl (fun hg => have hg := hg; sq_go 46 rfl rfl rfl (q_move rfl) <|
      sq_go 46 rfl rfl rfl (q_move rfl) <|
      sq_go 46 rfl rfl rfl (q_call fn43 rfl (fun w hS => cont_ct _ _ _ w (own_slV (hS.own _ (List.mem_of_getElem? (i := 0) rfl)).1 (by first | assumption | (simp; done)) (by first | rfl | (simp; done) | (simp; omega) | omega) (by first | omega | (simp; omega)))) (fun _ _ _ h => h)) <|
      sq_go 46 rfl rfl rfl (q_not rfl) <|
      sq_end) rfl rfl ?_
    clear hF hS; intro a w hF hS
    refine wpList_nil ?_
    refine hK17 _ _ ?_
    clear hK17
    refine wp_if hF rfl (fun hc4 => ?_) (fun hc4 => ?_)
    ·(try simp only [Bool.or_eq_true, Bool.and_eq_true, Bool.or_eq_false_iff, Bool.and_eq_false_iff, decide_eq_true_eq, decide_eq_false_iff_not, Bool.not_eq_true', Bool.not_eq_false'] at hc4)
     refine regl ?_
     refine wpl_sq hF hS (sq rfl (q_move rfl) <|
       sq rfl (q_move rfl) <|
       sq_end) ?_
     clear hF hS; intro a w hF hS
     refine wpl_ef hF hS rfl (ef_bsliceA ty22 ty3 rfl rfl oQ (by decide) rfl rfl) ?_
     clear hF hS; rintro v4 _ _ a w ⟨rfl, rfl⟩ hF hS
     replace hS : St _ [] [_, _, _, _] _ := hS
     refine wpl_ef hF hS rfl (ef_append ty22 ty3 1 rfl rfl rfl (src_row ty22 (k := 0) rfl oQ) bQ rfl (by decide)) ?_
     clear hF hS; rintro v6 _ _ a w ⟨rfl, rfl⟩ hF hS
     replace hS : St _ [] [_, _, _, _] _ := hS
     refine wpl_sq hF hS (sq rfl (q_assign rfl) <|
       sq_end) ?_
     clear hF hS; intro a w hF hS
     refine wpList_nil ?_
     refine hK15 _ _ ?_
     clear hK15
     refine reg hF hS (sq rfl (q_addi rfl rfl (by omega)) <|
       sq rfl (q_move rfl) <|
       sq_end) ?_
     clear hF hS; intro a w hF hS
     replace hS := hS.keep zQ (sQ.n)
     refine ⟨(v6, k + 1), ?_, ?_, hF.sub ⟨rfl, rfl, rfl, rfl, rfl, rfl, trivial⟩, ?_⟩
     ·(try dsimp only); omega
     ·(try dsimp only); omega
     ·dsimp only; rw [show (k + 1).toNat = k.toNat + 1 by omega, Gp.shr_t hc4, List.map_append, List.length_append]; exact hS
    ·(try simp only [Bool.or_eq_true, Bool.and_eq_true, Bool.or_eq_false_iff, Bool.and_eq_false_iff, decide_eq_true_eq, decide_eq_false_iff_not, Bool.not_eq_true', Bool.not_eq_false'] at hc4)
     refine wp_skip ?_
     refine hK15 _ _ ?_
     clear hK15
     refine reg hF hS (sq rfl (q_addi rfl rfl (by omega)) <|
       sq rfl (q_move rfl) <|
       sq_end) ?_
     clear hF hS; intro a w hF hS
     refine ⟨(u, k + 1), ?_, ?_, hF.sub ⟨rfl, rfl, rfl, rfl, rfl, rfl, trivial⟩, ?_⟩
     ·(try dsimp only); omega
     ·(try dsimp only); omega
     ·dsimp only; rw [show (k + 1).toNat = k.toNat + 1 by omega, Gp.shr_f hc4]; exact hS
   ·obtain rfl : k = asked.length := by omega
    rw [Int.toNat_natCast] at hS
    have hel := Gp.shr_len base known asked asked.length
    refine wp_exit ?_
    refine hK11 _ _ ?_
    clear hK11
    refine wp_seq_k ?_; intro K18 hK18
    refine reg hF hS (sq rfl (q_move rfl) <|
      sq rfl (q_assign rfl) <|
      sq rfl (q_assign rfl) <|
      sq_end) ?_
    clear hF hS; intro a w hF hS
    refine hK18 _ _ ?_
    clear hK18
    refine wp_ret ?_
    obtain ⟨zr, hzr, hS⟩ := St.freezeV (f := vi) (p := fun x => -9223372036854775808 ≤ x ∧ x ≤ 9223372036854775807) hS rfl (by first | omega | (simp; omega)) (fun y hy => har y (Gp.shr_mem _ (Nat.le_refl _) y hy))
    exact fn_ret (rs := [.tmp 8, .tmp 9]) rfl hF hS (vs := [_, _]) ⟨rfl, rfl, trivial⟩ (zs' := [_]) (hs' := []) (List.singleton_sublist.2 (by simp)) zQ (se_of ⟨_, _, hzr, rfl, rfl, rfl⟩ (by unfold Gp.sL; rw [if_pos hse]) (hse.symm))

set_option maxRecDepth 4000 in
set_option maxHeartbeats 2000000 in
theorem gcheck_ct (xN xS xB : Value) (xs : List Int) (xb : List Bool) (base : Int) (cV : Value) (ch : List Int) (v : Value) (bs : List Bool) (v1 : Value) (taken : List Int) (v2 : Value) (asked : List Int) (w : World) (hxn : xN.oneCell' = true) (hxs : Sl encI (ph w) xS xs) (hxb : Sl encT (ph w) xB xb) (hc : Sl encI (ph w) cV ch) (hbs : Sl encT (ph w) v bs) (hta : Sl encI (ph w) v1 taken) (has : Sl encI (ph w) v2 asked) : Ct Try.prog 25 [.agg [xN, xS, xB].toArray, .agg [vi base, cV].toArray, v, v1, v2] w (fun r _ _ => r = vi (Gp.chk xs xb bs base ch taken asked)) := by
 refine fn_enter Try.func25 rfl Try.ntmps25 (Nat.le_of_ble_eq_true rfl) fun a hF hS => ?_
 have hsl := hxs.1
 have htl := hxb.1
 have hcl := hc.1
 have hbl0 := hbs.1
 have htl0 := hta.1
 have hal0 := has.1
 refine wp_seq_k ?_; intro K1 hK1
 refine regl ?_
 refine wpl_ef hF hS rfl (ef_boxA rfl) ?_
 clear hF hS; rintro _ _ _ a w ⟨b1, rfl, rfl, rfl⟩ hF hS
 refine wpl_ef hF hS rfl (ef_boxA rfl) ?_
 clear hF hS; rintro _ _ _ a w ⟨b2, rfl, rfl, rfl⟩ hF hS
 refine wpl_sq hF hS (sq rfl (q_assign rfl) <|
   sq_end) ?_
 clear hF hS; intro a w hF hS
 refine wpList_nil ?_
 refine hK1 _ _ ?_
 clear hK1
 refine wp_seq_k ?_; intro K2 hK2
 refine regl ?_
 refine wpl_sq hF hS (sq rfl (q_ld_blkW ty31 1 rfl rfl bQ rfl) <|
   sq rfl (q_ld_blkW ty35 0 rfl rfl bQ rfl) <|
   sq rfl (q_move rfl) <|
   sq rfl (q_call fn32 rfl (fun w hS => open_ct _ _ _ _ _ _ _ _ _ _ w hxn (Sl.mono (hS.le zin0) hxs) (Sl.mono (hS.le zin0) hxb) (Sl.mono (hS.le zin0) hc) (Sl.mono (hS.le zin0) hbs)) (fun _ _ _ h => h)) <|
   sq rfl (q_move rfl) <|
   sq rfl (q_extract rfl rfl) <|
   sq rfl (q_extract rfl rfl) <|
   sq_end) ?_
 clear hF hS; intro a w hF hS
 refine wpl_ef hF hS rfl (ef_allocA ty68) ?_
 clear hF hS; rintro _ _ _ a w ⟨b3, rfl, rfl, rfl⟩ hF hS
 refine wpl_ef hF hS rfl (ef_storeW ty68 0 rfl rfl rfl rfl bQ (oc_cons hxn (oc_cons (sl_one' hxs) (oc_cons (sl_one' hxb) (oc_cons (sl_one' hbs) oc_nil)))) bQ) ?_
 clear hF hS; rintro _ _ _ a w ⟨rfl, rfl, rfl⟩ hF hS
 replace hS : St _ [] [_, _, _] _ := hS
 refine wpl_sq hF hS (sq rfl (q_assign rfl) <|
   sq_end) ?_
 clear hF hS; intro a w hF hS
 refine wpList_nil ?_
 refine hK2 _ _ ?_
 clear hK2
 refine wp_seq_k ?_; intro K3 hK3
 refine wp_seq_k ?_; intro K4 hK4
 refine reg hF hS (sq rfl (q_move rfl) <|
   sq rfl (q_nei rfl rfl) <|
   sq_end) ?_
 clear hF hS; intro a w hF hS
 refine hK4 _ _ ?_
 clear hK4
 refine wp_ifn hF rfl (fun hc1 => ?_) (fun hc1 => ?_)
 ·refine wp_seq_k ?_; intro K5 hK5
  refine reg hF hS (sq rfl (q_move rfl) <|
    sq rfl (q_assign rfl) <|
    sq_end) ?_
  clear hF hS; intro a w hF hS
  refine hK5 _ _ ?_
  clear hK5
  refine wp_ret ?_
  exact fn_ret (rs := [.tmp 10]) rfl hF hS (vs := [_]) ⟨rfl, trivial⟩ zQ zQ (by rw [Gp.chk_e hc1])
 ·have ho := Gp.opn_0 (by simpa using hc1)
  have hv0 := Gp.vl_0 ho.1
  have hbl := ho.2.1
  refine wp_skip ?_
  refine hK3 _ _ ?_
  clear hK3
  refine wp_seq_k ?_; intro K6 hK6
  refine reg hF hS (sq rfl (q_assign rfl) <|
    sq_end) ?_
  clear hF hS; intro a w hF hS
  refine hK6 _ _ ?_
  clear hK6
  refine wp_seq_k ?_; intro K7 hK7
  refine wp_seq_k ?_; intro K8 hK8
  refine reg hF hS (sq rfl (q_move rfl) <|
    sq rfl (q_len_sl ty22 hta rfl) <|
    sq rfl (q_move rfl) <|
    sq_end) ?_
  clear hF hS; intro a w hF hS
  refine hK8 _ _ ?_
  clear hK8
  refine wp_block ?_
  obtain ⟨hs0, hhs0, hS⟩ : ∃ h, h = _ ∧ St _ _ h _ := ⟨_, rfl, hS⟩
  refine wp_loopx (γ := Int) (0) (fun (i : Int) => [(13, vi (Gp.lst taken i.toNat)), (31, vi i)]) [(3, _), (4, _), (5, _), (6, _), (11, _), (29, _), (30, _)] (fun (i : Int) => hs0) (fun (i : Int) => 0 ≤ i ∧ i ≤ taken.length ∧ ∀ j, j < i.toNat → Gp.tkC taken ch.length j) (fun (i : Int) => (taken.length - i).toNat) (hF.sub ⟨rfl, rfl, rfl, rfl, rfl, rfl, rfl, rfl, rfl, trivial⟩) (by subst hhs0; exact hS) (by exact ⟨Int.le_refl _, by omega, fun j hj => absurd hj (by simp)⟩) ?_
  clear hF hS; rintro i a w hfact hF hS
  subst hhs0; (try dsimp only at hfact); (try dsimp only at hF); (try dsimp only at hS)
  obtain ⟨hi0, hi1, htk⟩ := hfact
  replace hS : St _ [] [_, _, _] _ := hS
  refine wp_seq_k ?_; intro K9 hK9
  refine reg hF hS (sq rfl (q_lti rfl rfl) <|
    sq_end) ?_
  clear hF hS; intro a w hF hS
  refine hK9 _ _ ?_
  clear hK9
  refine wp_seq_k ?_; intro K10 hK10
  refine wp_ifd hF rfl (fun hc2 => ?_) (fun hc2 => ?_)
  ·refine wp_skip ?_
   refine hK10 _ _ ?_
   clear hK10
   refine wp_seq_k ?_; intro K11 hK11
   refine wp_block ?_
   refine wp_seq_k ?_; intro K12 hK12
   refine reg hF hS (sq rfl (q_idx_sl ty22 ty3 hta rfl rfl (by omega)) <|
     sq rfl (q_ld_I ty3 hta zin0 rfl rfl (by omega)) <|
     sq rfl (q_assign rfl) <|
     sq_end) ?_
   clear hF hS; intro a w hF hS
   refine hK12 _ _ ?_
   clear hK12
   refine wp_seq_k ?_; intro K13 hK13
   refine wp_seq_k ?_; intro K14 hK14
   refine regl ?_
   refine wpl_sq hF hS (sq rfl (q_move rfl) <|
     sq rfl (q_move rfl) <|
     sq rfl (q_lei rfl rfl) <|
     sq rfl (q_move rfl) <|
     sq_end) ?_
   clear hF hS; intro a w hF hS
   refine wpl_or 3 38 5 hF hS rfl rfl rfl rfl rfl (fun hg => have hg := (by first | exact of_decide_eq_false hg | exact hg); sq_go 38 rfl rfl rfl (q_move rfl) <|
     sq_go 38 rfl rfl rfl (q_fieldAddr ty35 rfl rfl (s' := 0) kQ) <|
     sq_go 38 rfl rfl rfl (q_ld_blk1 ty22 1 rfl rfl rfl rfl) <|
     sq_go 38 rfl rfl rfl (q_len_sl ty22 hc rfl) <|
     sq_go 38 rfl rfl rfl (q_gei rfl rfl) <|
     sq_end) rfl rfl ?_
   clear hF hS; intro a w hF hS
   refine wpList_nil ?_
   refine hK14 _ _ ?_
   clear hK14
   refine wp_if hF rfl (fun hc3 => ?_) (fun hc3 => ?_)
   ·(try simp only [Bool.or_eq_true, Bool.and_eq_true, Bool.or_eq_false_iff, Bool.and_eq_false_iff, decide_eq_true_eq, decide_eq_false_iff_not, Bool.not_eq_true', Bool.not_eq_false'] at hc3)
    refine wp_seq_k ?_; intro K15 hK15
    refine reg hF hS (sq rfl (q_assign rfl) <|
      sq_end) ?_
    clear hF hS; intro a w hF hS
    refine hK15 _ _ ?_
    clear hK15
    refine wp_ret ?_
    exact fn_ret (rs := [.tmp 10]) rfl hF hS (vs := [_]) ⟨rfl, trivial⟩ zQ zQ (by rw [Gp.chk_b (by simpa using hc1) (Gp.chB_1 (Gp.tk_bad (i := i.toNat) (by omega) hc3))])
   ·(try simp only [Bool.or_eq_true, Bool.and_eq_true, Bool.or_eq_false_iff, Bool.and_eq_false_iff, decide_eq_true_eq, decide_eq_false_iff_not, Bool.not_eq_true', Bool.not_eq_false'] at hc3)
    refine wp_skip ?_
    refine hK13 _ _ ?_
    clear hK13
    refine reg hF hS (sq rfl (q_move rfl) <|
      sq rfl (q_assign rfl) <|
      sq_end) ?_
    clear hF hS; intro a w hF hS
    refine hK11 _ _ ?_
    clear hK11
    refine reg hF hS (sq rfl (q_addi rfl rfl (by omega)) <|
      sq rfl (q_move rfl) <|
      sq_end) ?_
    clear hF hS; intro a w hF hS
    refine ⟨(i + 1), ?_, ?_, hF.sub ⟨(by rw [show (i + 1).toNat = i.toNat + 1 by omega]; rfl), rfl, rfl, rfl, rfl, rfl, rfl, rfl, rfl, trivial⟩, ?_⟩
    ·(try dsimp only); omega
    ·refine ⟨by omega, by omega, fun j hj => ?_⟩
     by_cases hji : j = i.toNat
     ·subst hji; exact Gp.tk_step htk (by omega)
     ·exact htk j (by omega)
    ·exact hS
  ·obtain rfl : i = taken.length := by omega
   rw [Int.toNat_natCast] at htk
   refine wp_exit ?_
   refine hK7 _ _ ?_
   clear hK7
   refine wp_seq_k ?_; intro K16 hK16
   refine reg hF hS (sq rfl (q_fieldAddr ty35 rfl rfl (s' := 0) kQ) <|
     sq rfl (q_ld_blk1 ty3 1 rfl rfl rfl rfl) <|
     sq rfl (q_assign rfl) <|
     sq_end) ?_
   clear hF hS; intro a w hF hS
   refine hK16 _ _ ?_
   clear hK16
   refine wp_seq_k ?_; intro K17 hK17
   refine wp_seq_k ?_; intro K18 hK18
   refine reg hF hS (sq rfl (q_fieldAddr ty35 rfl rfl (s' := 0) kQ) <|
     sq rfl (q_ld_blk1 ty22 1 rfl rfl rfl rfl) <|
     sq rfl (q_len_sl ty22 hc rfl) <|
     sq rfl (q_move rfl) <|
     sq_end) ?_
   clear hF hS; intro a w hF hS
   refine hK18 _ _ ?_
   clear hK18
   refine wp_block ?_
   obtain ⟨hs0, hhs0, hS⟩ : ∃ h, h = _ ∧ St _ _ h _ := ⟨_, rfl, hS⟩
   refine wp_loopx (γ := Int) (0) (fun (k : Int) => [(16, vi (Gp.cst taken ch base k.toNat)), (52, vi k)]) [(3, _), (4, _), (5, _), (6, _), (11, _), (50, _), (51, _)] (fun (k : Int) => hs0) (fun (k : Int) => 0 ≤ k ∧ k ≤ ch.length ∧ ∀ j, j < k.toNat → Gp.cbd (Gp.gd xs xb bs) xs ch taken asked base j = false) (fun (k : Int) => (ch.length - k).toNat) (hF.sub ⟨rfl, rfl, rfl, rfl, rfl, rfl, rfl, rfl, rfl, trivial⟩) (by subst hhs0; exact hS) (by exact ⟨Int.le_refl _, by omega, fun j hj => absurd hj (by simp)⟩) ?_
   clear hF hS; rintro k a w hfact hF hS
   subst hhs0; (try dsimp only at hfact); (try dsimp only at hF); (try dsimp only at hS)
   obtain ⟨hk0, hk1, hkc⟩ := hfact
   replace hS : St _ [] [_, _, _] _ := hS
   have hkk : ((k.toNat : Nat) : Int) = k := by omega
   refine wp_seq_k ?_; intro K19 hK19
   refine reg hF hS (sq rfl (q_lti rfl rfl) <|
     sq_end) ?_
   clear hF hS; intro a w hF hS
   refine hK19 _ _ ?_
   clear hK19
   refine wp_seq_k ?_; intro K20 hK20
   refine wp_ifd hF rfl (fun hc4 => ?_) (fun hc4 => ?_)
   ·refine wp_skip ?_
    refine hK20 _ _ ?_
    clear hK20
    refine wp_seq_k ?_; intro K21 hK21
    refine wp_block ?_
    refine wp_seq_k ?_; intro K22 hK22
    refine reg hF hS (sq rfl (q_move rfl) <|
      sq rfl (q_idx_sl ty22 ty3 hc rfl rfl (by omega)) <|
      sq rfl (q_ld_I ty3 hc zin0 rfl rfl (by omega)) <|
      sq rfl (q_assign rfl) <|
      sq rfl (q_assign rfl) <|
      sq_end) ?_
    clear hF hS; intro a w hF hS
    refine hK22 _ _ ?_
    clear hK22
    refine wp_block ?_
    refine wp_seq_k ?_; intro K23 hK23
    refine reg hF hS (sq rfl (q_move rfl) <|
      sq rfl (q_move rfl) <|
      sq rfl (q_call fn43 rfl (fun w hS => cont_ct _ _ _ w (Sl.mono (hS.le zin0) hta)) (fun _ _ _ h => h)) <|
      sq rfl (q_assign rfl) <|
      sq_end) ?_
    clear hF hS; intro a w hF hS
    refine hK23 _ _ ?_
    clear hK23
    refine wp_ifd hF rfl (fun hc5 => ?_) (fun hc5 => ?_)
    ·refine reg hF hS (sq rfl (q_move rfl) <|
       sq rfl (q_move rfl) <|
       sq rfl (q_ori rfl rfl) <|
       sq rfl (q_assign rfl) <|
       sq_end) ?_
     clear hF hS; intro a w hF hS
     refine hK21 _ _ ?_
     clear hK21
     refine reg hF hS (sq rfl (q_addi rfl rfl (by omega)) <|
       sq rfl (q_move rfl) <|
       sq_end) ?_
     clear hF hS; intro a w hF hS
     refine ⟨(k + 1), ?_, ?_, hF.sub ⟨(by rw [show (k + 1).toNat = k.toNat + 1 by omega]; first | (rw [Gp.cst_in (by rw [hkk]; exact hc5)]; rfl) | (rw [Gp.cst_out (by rw [hkk]; exact hc5)]; rfl)), rfl, rfl, rfl, rfl, rfl, rfl, rfl, rfl, trivial⟩, ?_⟩
     ·(try dsimp only); omega
     ·refine ⟨by omega, by omega, fun j hj => ?_⟩
      by_cases hjk : j = k.toNat
      ·subst hjk; exact (Gp.cbd_in (by rw [hkk]; exact hc5))
      ·exact hkc j (by omega)
     ·exact hS
    ·refine wp_seq_k ?_; intro K24 hK24
     refine regl ?_
     refine wpl_sq hF hS (sq rfl (q_ld_blkW ty68 0 rfl rfl bQ rfl) <|
       sq rfl (q_move rfl) <|
       sq rfl (q_move rfl) <|
       sq rfl (q_ori rfl rfl) <|
       sq rfl (q_call fn33 rfl (fun w hS => good_ct _ _ _ _ _ _ _ _ (by omega) (by omega) w hxn (Sl.mono (hS.le zin0) hxs) (Sl.mono (hS.le zin0) hxb) (Sl.mono (hS.le zin0) hbs)) (fun _ _ _ h => h)) <|
       sq rfl (q_move rfl) <|
       sq_end) ?_
     clear hF hS; intro a w hF hS
     refine wpl_orG (q := (!decide ((ior (Gp.cst taken ch base k.toNat) (ch.getD k.toNat 0)) ∈ asked) && decide (0 ≤ Gp.ix xs (ior (Gp.cst taken ch base k.toNat) (ch.getD k.toNat 0))))) 70 14 hF hS rfl (by rfl) rfl (fun _ => sq_skip 70 rfl rfl rfl rfl <|
       sq_skip 70 rfl rfl rfl rfl <|
       sq_skip 70 rfl rfl rfl rfl <|
       sq_skip 70 rfl rfl rfl rfl <|
       sq_skip 70 rfl rfl rfl rfl <|
       sq_skip 70 rfl rfl rfl rfl <|
       sq_skip 70 rfl rfl rfl rfl <|
       sq_skipu 77 rfl rfl rfl <|
       sq_skipu 77 rfl rfl rfl <|
       sq_skipu 77 rfl rfl rfl <|
       sq_skipu 77 rfl rfl rfl <|
       sq_skipu 77 rfl rfl rfl <|
       sq_skipu 77 rfl rfl rfl <|
       sq_skip 70 rfl rfl rfl rfl <|
       sq_end) rfl (fun hg a w hF hS KG => ?_) ?_
     ·have hg := hg
      refine wpl_sq hF hS (sq_go 70 rfl rfl rfl (q_move rfl) <|
        sq_go 70 rfl rfl rfl (q_move rfl) <|
        sq_go 70 rfl rfl rfl (q_move rfl) <|
        sq_go 70 rfl rfl rfl (q_ori rfl rfl) <|
        sq_go 70 rfl rfl rfl (q_call fn43 rfl (fun w hS => cont_ct _ _ _ w (Sl.mono (hS.le zin0) has)) (fun _ _ _ h => h)) <|
        sq_go 70 rfl rfl rfl (q_not rfl) <|
        sq_go 70 rfl rfl rfl (q_move rfl) <|
        sq_end) ?_
      clear hF hS; intro a w hF hS
      refine wpl_andP 12 77 6 5 70 hF hS rfl rfl rfl rfl rfl rfl rfl (fun hg2 => have hg2 := (nd_true hg2); sq_go 77 rfl rfl rfl (q_ld_blkW ty31 2 rfl rfl bQ rfl) <|
        sq_go 77 rfl rfl rfl (q_move rfl) <|
        sq_go 77 rfl rfl rfl (q_move rfl) <|
        sq_go 77 rfl rfl rfl (q_ori rfl rfl) <|
        sq_go 77 rfl rfl rfl (q_call fn30 rfl (fun w hS => lix_ct _ _ _ _ _ _ w hxn (Sl.mono (hS.le zin0) hxs) (Sl.mono (hS.le zin0) hxb)) (fun _ _ _ h => h)) <|
        sq_go 77 rfl rfl rfl (q_gei rfl rfl) <|
        sq_end) rfl rfl ?_
      clear hF hS; intro a w hF hS
      refine wpl_sq hF hS (sq rfl (q_pick_f rfl rfl) <|
        sq_end) ?_
      clear hF hS; intro a w hF hS
      exact KG _ _ (hF.under 8 rfl rfl) hS
     clear hF hS; intro a w hF hS
     refine wpl_sq hF hS (sq rfl (q_assign rfl) <|
       sq_end) ?_
     clear hF hS; intro a w hF hS
     refine wpList_nil ?_
     refine hK24 _ _ ?_
     clear hK24
     refine wp_if hF rfl (fun hc6 => ?_) (fun hc6 => ?_)
     ·(try simp only [Bool.or_eq_true, Bool.and_eq_true, Bool.or_eq_false_iff, Bool.and_eq_false_iff, decide_eq_true_eq, decide_eq_false_iff_not, Bool.not_eq_true', Bool.not_eq_false'] at hc6)
      refine wp_seq_k ?_; intro K25 hK25
      refine reg hF hS (sq rfl (q_assign rfl) <|
        sq_end) ?_
      clear hF hS; intro a w hF hS
      refine hK25 _ _ ?_
      clear hK25
      refine wp_ret ?_
      exact fn_ret (rs := [.tmp 10]) rfl hF hS (vs := [_]) ⟨rfl, trivial⟩ zQ zQ (by rw [Gp.chk_b (by simpa using hc1) (Gp.chB_2 (k := k.toNat) (by omega) (Gp.cbd_t (by rw [hkk]; exact hc5) hc6))])
     ·(try simp only [Bool.or_eq_true, Bool.and_eq_true, Bool.or_eq_false_iff, Bool.and_eq_false_iff, decide_eq_true_eq, decide_eq_false_iff_not, Bool.not_eq_true', Bool.not_eq_false'] at hc6)
      refine wp_skip ?_
      refine hK21 _ _ ?_
      clear hK21
      refine reg hF hS (sq rfl (q_addi rfl rfl (by omega)) <|
        sq rfl (q_move rfl) <|
        sq_end) ?_
      clear hF hS; intro a w hF hS
      refine ⟨(k + 1), ?_, ?_, hF.sub ⟨(by rw [show (k + 1).toNat = k.toNat + 1 by omega]; first | (rw [Gp.cst_in (by rw [hkk]; exact hc5)]; rfl) | (rw [Gp.cst_out (by rw [hkk]; exact hc5)]; rfl)), rfl, rfl, rfl, rfl, rfl, rfl, rfl, rfl, trivial⟩, ?_⟩
      ·(try dsimp only); omega
      ·refine ⟨by omega, by omega, fun j hj => ?_⟩
       by_cases hjk : j = k.toNat
       ·subst hjk; exact (Gp.cbd_f hc6)
       ·exact hkc j (by omega)
      ·exact hS
   ·obtain rfl : k = ch.length := by omega
    rw [Int.toNat_natCast] at hF hkc
    refine wp_exit ?_
    refine hK17 _ _ ?_
    clear hK17
    refine wp_seq_k ?_; intro K26 hK26
    refine wp_seq_k ?_; intro K27 hK27
    refine regl ?_
    refine wpl_sq hF hS (sq rfl (q_ld_blkW ty68 0 rfl rfl bQ rfl) <|
      sq rfl (q_move rfl) <|
      sq rfl (q_call fn33 rfl (fun w hS => good_ct _ _ _ _ _ _ _ _ (by omega) (by omega) w hxn (Sl.mono (hS.le zin0) hxs) (Sl.mono (hS.le zin0) hxb) (Sl.mono (hS.le zin0) hbs)) (fun _ _ _ h => h)) <|
      sq rfl (q_not rfl) <|
      sq rfl (q_move rfl) <|
      sq_end) ?_
    clear hF hS; intro a w hF hS
    refine wpl_orG (q := (!decide ((Gp.cst taken ch base ch.length) = base) && !decide ((Gp.cst taken ch base ch.length) ∈ asked))) 91 10 hF hS rfl (by rfl) rfl (fun _ => sq_skip 91 rfl rfl rfl rfl <|
      sq_skip 91 rfl rfl rfl rfl <|
      sq_skip 91 rfl rfl rfl rfl <|
      sq_skip 91 rfl rfl rfl rfl <|
      sq_skip 91 rfl rfl rfl rfl <|
      sq_skipu 96 rfl rfl rfl <|
      sq_skipu 96 rfl rfl rfl <|
      sq_skipu 96 rfl rfl rfl <|
      sq_skipu 96 rfl rfl rfl <|
      sq_skip 91 rfl rfl rfl rfl <|
      sq_end) rfl (fun hg a w hF hS KG => ?_) ?_
    ·have hg := hg
     refine wpl_sq hF hS (sq_go 91 rfl rfl rfl (q_move rfl) <|
       sq_go 91 rfl rfl rfl (q_fieldAddr ty35 rfl rfl (s' := 0) kQ) <|
       sq_go 91 rfl rfl rfl (q_ld_blk1 ty3 1 rfl rfl rfl rfl) <|
       sq_go 91 rfl rfl rfl (q_nei rfl rfl) <|
       sq_go 91 rfl rfl rfl (q_move rfl) <|
       sq_end) ?_
     clear hF hS; intro a w hF hS
     refine wpl_andP 9 96 4 4 91 hF hS rfl rfl rfl rfl rfl rfl rfl (fun hg2 => have hg2 := (nd_true hg2); sq_go 96 rfl rfl rfl (q_move rfl) <|
       sq_go 96 rfl rfl rfl (q_move rfl) <|
       sq_go 96 rfl rfl rfl (q_call fn43 rfl (fun w hS => cont_ct _ _ _ w (Sl.mono (hS.le zin0) has)) (fun _ _ _ h => h)) <|
       sq_go 96 rfl rfl rfl (q_not rfl) <|
       sq_end) rfl rfl ?_
     clear hF hS; intro a w hF hS
     refine wpl_sq hF hS (sq rfl (q_pick_f rfl rfl) <|
       sq_end) ?_
     clear hF hS; intro a w hF hS
     exact KG _ _ (hF.under 6 rfl rfl) hS
    clear hF hS; intro a w hF hS
    refine wpList_nil ?_
    refine hK27 _ _ ?_
    clear hK27
    refine wp_if hF rfl (fun hc7 => ?_) (fun hc7 => ?_)
    ·(try simp only [Bool.or_eq_true, Bool.and_eq_true, Bool.or_eq_false_iff, Bool.and_eq_false_iff, decide_eq_true_eq, decide_eq_false_iff_not, Bool.not_eq_true', Bool.not_eq_false'] at hc7)
     refine wp_seq_k ?_; intro K28 hK28
     refine reg hF hS (sq rfl (q_assign rfl) <|
       sq_end) ?_
     clear hF hS; intro a w hF hS
     refine hK28 _ _ ?_
     clear hK28
     refine wp_ret ?_
     exact fn_ret (rs := [.tmp 10]) rfl hF hS (vs := [_]) ⟨rfl, trivial⟩ zQ zQ (by rw [Gp.chk_b (by simpa using hc1) (Gp.chB_3 (by simpa using hc7))])
    ·(try simp only [Bool.or_eq_true, Bool.and_eq_true, Bool.or_eq_false_iff, Bool.and_eq_false_iff, decide_eq_true_eq, decide_eq_false_iff_not, Bool.not_eq_true', Bool.not_eq_false'] at hc7)
     refine wp_skip ?_
     refine hK26 _ _ ?_
     clear hK26
     refine wp_seq_k ?_; intro K29 hK29
     refine reg hF hS (sq rfl (q_assign rfl) <|
       sq_end) ?_
     clear hF hS; intro a w hF hS
     refine hK29 _ _ ?_
     clear hK29
     refine wp_ret ?_
     exact fn_ret (rs := [.tmp 10]) rfl hF hS (vs := [_]) ⟨rfl, trivial⟩ zQ zQ (by rw [Gp.chk_t (by simpa using hc1) (Gp.chB_4 htk hkc (by simpa [Decidable.or_iff_not_imp_left] using hc7))])
end Go.Proofs.Ytplceoanaoeejaa
