/- A text of a proof over this seat: walks over the program's functions and the plain laws that they need. -/
import Derived.Test.YtplceoanaoeejaaQp15
import Derived.Test.YtplceoanaoeejaaGpA
import Derived.Test.YtplceoanaoeejaaFwC
import Derived.Test.YtplceoanaoeejaaFwB
set_option linter.all false
namespace Go.Proofs.Ytplceoanaoeejaa
open Go.Fw


set_option maxRecDepth 4000 in
set_option maxHeartbeats 2000000 in
theorem rgcheck_ct (xN xS xB : Value) (xs : List Int) (xb : List Bool) (base : Int) (cV : Value) (ch : List Int) (v : Value) (bs : List Bool) (v1 : Value) (taken : List Int) (v2 : Value) (asked : List Int) (w : World) (hxn : xN.oneCell' = true) (hxs : Sl encI (ph w) xS xs) (hxb : Sl encT (ph w) xB xb) (hc : Sl encI (ph w) cV ch) (hbs : Sl encT (ph w) v bs) (hta : Sl encI (ph w) v1 taken) (has : Sl encI (ph w) v2 asked) : Ct Try.prog 26 [.agg [xN, xS, xB].toArray, .agg [vi base, cV].toArray, v, v1, v2] w (fun r _ _ => r = vi (Gp.chk xs xb bs base ch taken asked)) := by
 refine fn_enter Try.func26 rfl Try.ntmps26 (Nat.le_of_ble_eq_true rfl) fun a hF hS => ?_
 have hsl := hxs.1
 have htl := hxb.1
 have hcl := hc.1
 have hbl0 := hbs.1
 have htl0 := hta.1
 have hal0 := has.1
 refine wp_seq_k ?_; intro K1 hK1
 refine regl ?_
 refine wpl_ef hF hS rfl (ef_boxA rfl) ?_
 clear hF hS; rintro _ _ _ a w ⟨b1, rfl, rfl, rfl⟩ hF hS
 refine wpl_ef hF hS rfl (ef_boxA rfl) ?_
 clear hF hS; rintro _ _ _ a w ⟨b2, rfl, rfl, rfl⟩ hF hS
 refine wpl_sq hF hS (sq rfl (q_assign rfl) <|
   sq_end) ?_
 clear hF hS; intro a w hF hS
 refine wpList_nil ?_
 refine hK1 _ _ ?_
 clear hK1
 refine wp_seq_k ?_; intro K2 hK2
 refine reg hF hS (sq rfl (q_ld_blkW ty33 1 rfl rfl bQ rfl) <|
   sq rfl (q_ld_blkW ty37 0 rfl rfl bQ rfl) <|
   sq rfl (q_move rfl) <|
   sq rfl (q_call fn34 rfl (fun w hS => ready_ct _ _ _ _ _ _ _ _ _ _ w hxn (Sl.mono (hS.le zin0) hxs) (Sl.mono (hS.le zin0) hxb) (Sl.mono (hS.le zin0) hc) (Sl.mono (hS.le zin0) hbs)) (fun _ _ _ h => h)) <|
   sq rfl (q_assign rfl) <|
   sq_end) ?_
 clear hF hS; intro a w hF hS
 refine hK2 _ _ ?_
 clear hK2
 refine wp_seq_k ?_; intro K3 hK3
 refine wp_seq_k ?_; intro K4 hK4
 refine reg hF hS (sq rfl (q_move rfl) <|
   sq rfl (q_nei rfl rfl) <|
   sq_end) ?_
 clear hF hS; intro a w hF hS
 refine hK4 _ _ ?_
 clear hK4
 refine wp_ifn hF rfl (fun hc1 => ?_) (fun hc1 => ?_)
 ·refine wp_seq_k ?_; intro K5 hK5
  refine reg hF hS (sq rfl (q_move rfl) <|
    sq rfl (q_assign rfl) <|
    sq_end) ?_
  clear hF hS; intro a w hF hS
  refine hK5 _ _ ?_
  clear hK5
  refine wp_ret ?_
  exact fn_ret (rs := [.tmp 10]) rfl hF hS (vs := [_]) ⟨rfl, trivial⟩ zQ zQ (by rw [Gp.chk_e hc1])
 ·have ho := Gp.opn_0 (by simpa using hc1)
  have hv0 := Gp.vl_0 ho.1
  have hbl := ho.2.1
  refine wp_skip ?_
  refine hK3 _ _ ?_
  clear hK3
  refine wp_seq_k ?_; intro K6 hK6
  refine wp_seq_k ?_; intro K7 hK7
  refine reg hF hS (sq rfl (q_assign rfl) <|
    sq_end) ?_
  clear hF hS; intro a w hF hS
  refine hK7 _ _ ?_
  clear hK7
  refine wp_block ?_
  obtain ⟨hs0, hhs0, hS⟩ : ∃ h, h = _ ∧ St _ _ h _ := ⟨_, rfl, hS⟩
  refine wp_loopx (γ := Int) (0) (fun (i : Int) => [(12, vi i)]) [(2, _), (3, _), (4, _), (5, _), (6, _)] (fun (i : Int) => hs0) (fun (i : Int) => 0 ≤ i ∧ i ≤ taken.length ∧ ∀ j, j < i.toNat → Gp.tkC taken ch.length j) (fun (i : Int) => (taken.length - i).toNat) (hF.sub ⟨rfl, rfl, rfl, rfl, rfl, rfl, trivial⟩) (by subst hhs0; exact hS) (by exact ⟨Int.le_refl _, by omega, fun j hj => absurd hj (by simp)⟩) ?_
  clear hF hS; rintro i a w hfact hF hS
  subst hhs0; (try dsimp only at hfact); (try dsimp only at hF); (try dsimp only at hS)
  obtain ⟨hi0, hi1, htk⟩ := hfact
  replace hS : St _ [] [_, _] _ := hS
  refine wp_seq_k ?_; intro K8 hK8
  refine wp_seq_k ?_; intro K9 hK9
  refine reg hF hS (sq rfl (q_move rfl) <|
    sq rfl (q_move rfl) <|
    sq rfl (q_len_sl ty22 hta rfl) <|
    sq rfl (q_lti rfl rfl) <|
    sq_end) ?_
  clear hF hS; intro a w hF hS
  refine hK9 _ _ ?_
  clear hK9
  refine wp_ifd hF rfl (fun hc2 => ?_) (fun hc2 => ?_)
  ·refine wp_skip ?_
   refine hK8 _ _ ?_
   clear hK8
   refine wp_seq_k ?_; intro K10 hK10
   refine wp_block ?_
   refine wp_seq_k ?_; intro K11 hK11
   refine regq mixed kQ hS ?_
   refine wpq_seg hF (sq rfl (q_move rfl) <|
     sq rfl (q_move rfl) <|
     sq rfl (q_idx_sl ty22 ty3 hta rfl rfl (by omega)) <|
     sq rfl (q_ld_I ty3 hta zin0 rfl rfl (by omega)) <|
     sq rfl (q_lti rfl rfl) <|
     sq rfl (q_move rfl) <|
     sq_end) ?_
   clear hF; intro a hF
   refine wpq_or 5 34 8 hF rfl rfl rfl rfl rfl (fun hg => have hg := (by first | exact of_decide_eq_false hg | exact hg); sq_go 34 rfl rfl rfl (q_move rfl) <|
     sq_go 34 rfl rfl rfl (q_move rfl) <|
     sq_go 34 rfl rfl rfl (q_idx_sl ty22 ty3 hta rfl rfl (by omega)) <|
     sq_go 34 rfl rfl rfl (q_ld_I ty3 hta zin0 rfl rfl (by omega)) <|
     sq_go 34 rfl rfl rfl (q_fieldAddr ty37 rfl rfl (s' := 0) kQ) <|
     sq_go 34 rfl rfl rfl (q_ld_blk1 ty22 0 rfl rfl rfl rfl) <|
     sq_go 34 rfl rfl rfl (q_len_sl ty22 hc rfl) <|
     sq_go 34 rfl rfl rfl (q_gei rfl rfl) <|
     sq_end) rfl rfl ?_
   clear hF; intro a hF
   refine wpq_seg hF (sq rfl (q_move rfl) <|
     sq_end) ?_
   clear hF; intro a hF
   refine wpq_orG (q := (decide (0 < i) && decide ((taken.getD i.toNat 0) ≤ taken.getD (max (i - 1) 0).toNat 0))) 44 15 hF rfl (by rfl) rfl (by exact trivial) (fun _ => sq_skip 44 rfl rfl rfl rfl <|
     sq_skip 44 rfl rfl rfl rfl <|
     sq_skip 44 rfl rfl rfl rfl <|
     sq_skipu 47 rfl rfl rfl <|
     sq_skipu 47 rfl rfl rfl <|
     sq_skipu 47 rfl rfl rfl <|
     sq_skipu 47 rfl rfl rfl <|
     sq_skipu 47 rfl rfl rfl <|
     sq_skipu 47 rfl rfl rfl <|
     sq_skipu 47 rfl rfl rfl <|
     sq_skipu 47 rfl rfl rfl <|
     sq_skipu 47 rfl rfl rfl <|
     sq_skipu 47 rfl rfl rfl <|
     sq_skipu 47 rfl rfl rfl <|
     sq_skip 44 rfl rfl rfl rfl <|
     sq_end) rfl (fun hg a hF KG => ?_) ?_
   ·have hg := hg
    refine wpq_seg hF (sq_go 44 rfl rfl rfl (q_move rfl) <|
      sq_go 44 rfl rfl rfl (q_gti rfl rfl) <|
      sq_go 44 rfl rfl rfl (q_move rfl) <|
      sq_end) ?_
    clear hF; intro a hF
    refine wpq_andP 18 47 11 15 44 hF rfl rfl rfl rfl rfl rfl rfl (fun hg => have hg := (by first | exact of_decide_eq_true hg | exact hg); sq_go 47 rfl rfl rfl (q_move rfl) <|
      sq_go 47 rfl rfl rfl (q_move rfl) <|
      sq_go 47 rfl rfl rfl (q_idx_sl ty22 ty3 hta rfl rfl (by omega)) <|
      sq_go 47 rfl rfl rfl (q_ld_I ty3 hta zin0 rfl rfl (by omega)) <|
      sq_go 47 rfl rfl rfl (q_move rfl) <|
      sq_go 47 rfl rfl rfl (q_move rfl) <|
      sq_go 47 rfl rfl rfl (q_subi rfl rfl (by omega)) <|
      sq_go 47 rfl rfl rfl (q_max rfl rfl) <|
      sq_go 47 rfl rfl rfl (q_idx_sl ty22 ty3 hta rfl rfl (by omega)) <|
      sq_go 47 rfl rfl rfl (q_ld_I ty3 hta zin0 rfl rfl (by omega)) <|
      sq_go 47 rfl rfl rfl (q_lei rfl rfl) <|
      sq_end) rfl rfl ?_
    clear hF; intro a hF
    refine wpq_seg hF (sq rfl (q_pick_f rfl rfl) <|
      sq_end) ?_
    clear hF; intro a hF
    exact KG _ (hF.under 4 rfl rfl)
   clear hF; intro a hF
   refine wpq_nil ?_
   clear hS; intro w hS
   refine hK11 _ _ ?_
   clear hK11
   refine wp_if hF rfl (fun hc3 => ?_) (fun hc3 => ?_)
   ·(try simp only [Bool.or_eq_true, Bool.and_eq_true, Bool.or_eq_false_iff, Bool.and_eq_false_iff, decide_eq_true_eq, decide_eq_false_iff_not, Bool.not_eq_true', Bool.not_eq_false'] at hc3)
    have hmx : (max (i - 1) 0).toNat = i.toNat - 1 := by omega
    rw [hmx] at hc3
    have htb := Gp.tk_bad' (n := ch.length) (taken := taken) (i := i.toNat) (by omega) (by omega)
    refine wp_seq_k ?_; intro K12 hK12
    refine reg hF hS (sq rfl (q_assign rfl) <|
      sq_end) ?_
    clear hF hS; intro a w hF hS
    refine hK12 _ _ ?_
    clear hK12
    refine wp_ret ?_
    exact fn_ret (rs := [.tmp 10]) rfl hF hS (vs := [_]) ⟨rfl, trivial⟩ zQ zQ (by rw [Gp.chk_b (by simpa using hc1) (Gp.chB_1 htb)])
   ·(try simp only [Bool.or_eq_true, Bool.and_eq_true, Bool.or_eq_false_iff, Bool.and_eq_false_iff, decide_eq_true_eq, decide_eq_false_iff_not, Bool.not_eq_true', Bool.not_eq_false'] at hc3)
    have hmx : (max (i - 1) 0).toNat = i.toNat - 1 := by omega
    rw [hmx] at hc3
    have htc : Gp.tkC taken ch.length i.toNat := ⟨by omega, fun h => by omega⟩
    refine wp_skip ?_
    refine hK10 _ _ ?_
    clear hK10
    refine reg hF hS (sq rfl (q_move rfl) <|
      sq rfl (q_addi rfl rfl (by omega)) <|
      sq rfl (q_assign rfl) <|
      sq_end) ?_
    clear hF hS; intro a w hF hS
    refine ⟨(i + 1), ?_, ?_, hF.sub ⟨rfl, rfl, rfl, rfl, rfl, rfl, trivial⟩, ?_⟩
    ·(try dsimp only); omega
    ·refine ⟨by omega, by omega, fun j hj => ?_⟩
     by_cases hji : j = i.toNat
     ·subst hji; exact htc
     ·exact htk j (by omega)
    ·exact hS
  ·obtain rfl : i = taken.length := by omega
   rw [Int.toNat_natCast] at htk
   refine wp_exit ?_
   refine hK6 _ _ ?_
   clear hK6
   refine wp_seq_k ?_; intro K13 hK13
   refine reg hF hS (sq rfl (q_fieldAddr ty37 rfl rfl (s' := 0) kQ) <|
     sq rfl (q_ld_blk1 ty3 0 rfl rfl rfl rfl) <|
     sq rfl (q_assign rfl) <|
     sq_end) ?_
   clear hF hS; intro a w hF hS
   refine hK13 _ _ ?_
   clear hK13
   refine wp_seq_k ?_; intro K14 hK14
   refine wp_seq_k ?_; intro K15 hK15
   refine reg hF hS (sq rfl (q_assign rfl) <|
     sq_end) ?_
   clear hF hS; intro a w hF hS
   refine hK15 _ _ ?_
   clear hK15
   refine wp_block ?_
   obtain ⟨hs0, hhs0, hS⟩ : ∃ h, h = _ ∧ St _ _ h _ := ⟨_, rfl, hS⟩
   refine wp_loopx (γ := Int) (0) (fun (k : Int) => [(13, vi (Gp.cst taken ch base k.toNat)), (14, vi k)]) [(2, _), (3, _), (4, _), (5, _), (6, _)] (fun (k : Int) => hs0) (fun (k : Int) => 0 ≤ k ∧ k ≤ ch.length ∧ ∀ j, j < k.toNat → Gp.cbd (Gp.gd xs xb bs) xs ch taken asked base j = false) (fun (k : Int) => (ch.length - k).toNat) (hF.sub ⟨rfl, rfl, rfl, rfl, rfl, rfl, rfl, trivial⟩) (by subst hhs0; exact hS) (by exact ⟨Int.le_refl _, by omega, fun j hj => absurd hj (by simp)⟩) ?_
   clear hF hS; rintro k a w hfact hF hS
   subst hhs0; (try dsimp only at hfact); (try dsimp only at hF); (try dsimp only at hS)
   obtain ⟨hk0, hk1, hkc⟩ := hfact
   replace hS : St _ [] [_, _] _ := hS
   have hkk : ((k.toNat : Nat) : Int) = k := by omega
   refine wp_seq_k ?_; intro K16 hK16
   refine wp_seq_k ?_; intro K17 hK17
   refine reg hF hS (sq rfl (q_move rfl) <|
     sq rfl (q_fieldAddr ty37 rfl rfl (s' := 0) kQ) <|
     sq rfl (q_ld_blk1 ty22 0 rfl rfl rfl rfl) <|
     sq rfl (q_len_sl ty22 hc rfl) <|
     sq rfl (q_lti rfl rfl) <|
     sq_end) ?_
   clear hF hS; intro a w hF hS
   refine hK17 _ _ ?_
   clear hK17
   refine wp_ifd hF rfl (fun hc4 => ?_) (fun hc4 => ?_)
   ·refine wp_skip ?_
    refine hK16 _ _ ?_
    clear hK16
    refine wp_seq_k ?_; intro K18 hK18
    refine wp_block ?_
    refine wp_seq_k ?_; intro K19 hK19
    refine wp_seq_k ?_; intro K20 hK20
    refine reg hF hS (sq rfl (q_move rfl) <|
      sq rfl (q_move rfl) <|
      sq rfl (q_call fn24 rfl (fun w hS => rin_ct _ _ _ w (Sl.mono (hS.le zin0) hta)) (fun _ _ _ h => h)) <|
      sq_end) ?_
    clear hF hS; intro a w hF hS
    refine hK20 _ _ ?_
    clear hK20
    refine wp_ifd hF rfl (fun hc5 => ?_) (fun hc5 => ?_)
    ·refine wp_seq_k ?_; intro K21 hK21
     refine reg hF hS (sq rfl (q_move rfl) <|
       sq rfl (q_fieldAddr ty37 rfl rfl (s' := 0) kQ) <|
       sq rfl (q_ld_blk1 ty22 0 rfl rfl rfl rfl) <|
       sq rfl (q_move rfl) <|
       sq rfl (q_idx_sl ty22 ty3 hc rfl rfl (by omega)) <|
       sq rfl (q_ld_I ty3 hc zin0 rfl rfl (by omega)) <|
       sq rfl (q_ori rfl rfl) <|
       sq rfl (q_assign rfl) <|
       sq_end) ?_
     clear hF hS; intro a w hF hS
     refine hK21 _ _ ?_
     clear hK21
     refine wp_exit ?_
     refine hK18 _ _ ?_
     clear hK18
     refine reg hF hS (sq rfl (q_move rfl) <|
       sq rfl (q_addi rfl rfl (by omega)) <|
       sq rfl (q_assign rfl) <|
       sq_end) ?_
     clear hF hS; intro a w hF hS
     refine ⟨(k + 1), ?_, ?_, hF.sub ⟨(by rw [show (k + 1).toNat = k.toNat + 1 by omega]; first | (rw [Gp.cst_in (by rw [hkk]; exact hc5)]; rfl) | (rw [Gp.cst_out (by rw [hkk]; exact hc5)]; rfl)), rfl, rfl, rfl, rfl, rfl, rfl, trivial⟩, ?_⟩
     ·(try dsimp only); omega
     ·refine ⟨by omega, by omega, fun j hj => ?_⟩
      by_cases hjk : j = k.toNat
      ·subst hjk; exact (Gp.cbd_in (by rw [hkk]; exact hc5))
      ·exact hkc j (by omega)
     ·exact hS
    ·refine wp_skip ?_
     refine hK19 _ _ ?_
     clear hK19
     refine wp_seq_k ?_; intro K22 hK22
     refine reg hF hS (sq rfl (q_move rfl) <|
       sq rfl (q_fieldAddr ty37 rfl rfl (s' := 0) kQ) <|
       sq rfl (q_ld_blk1 ty22 0 rfl rfl rfl rfl) <|
       sq rfl (q_move rfl) <|
       sq rfl (q_idx_sl ty22 ty3 hc rfl rfl (by omega)) <|
       sq rfl (q_ld_I ty3 hc zin0 rfl rfl (by omega)) <|
       sq rfl (q_ori rfl rfl) <|
       sq rfl (q_assign rfl) <|
       sq_end) ?_
     clear hF hS; intro a w hF hS
     refine hK22 _ _ ?_
     clear hK22
     refine wp_seq_k ?_; intro K23 hK23
     refine regl ?_
     refine wpl_sq hF hS (sq rfl (q_ld_blkW ty33 1 rfl rfl bQ rfl) <|
       sq rfl (q_move rfl) <|
       sq rfl (q_move rfl) <|
       sq rfl (q_call fn35 rfl (fun w hS => rgood_ct _ _ _ _ _ _ _ _ (by omega) (by omega) w hxn (Sl.mono (hS.le zin0) hxs) (Sl.mono (hS.le zin0) hxb) (Sl.mono (hS.le zin0) hbs)) (fun _ _ _ h => h)) <|
       sq rfl (q_move rfl) <|
       sq_end) ?_
     clear hF hS; intro a w hF hS
     refine wpl_orG (q := (!decide ((ior (Gp.cst taken ch base k.toNat) (ch.getD k.toNat 0)) ∈ asked) && decide (0 ≤ Gp.ix xs (ior (Gp.cst taken ch base k.toNat) (ch.getD k.toNat 0))))) 91 10 hF hS rfl (by rfl) rfl (fun _ => sq_skip 91 rfl rfl rfl rfl <|
       sq_skip 91 rfl rfl rfl rfl <|
       sq_skip 91 rfl rfl rfl rfl <|
       sq_skip 91 rfl rfl rfl rfl <|
       sq_skip 91 rfl rfl rfl rfl <|
       sq_skipu 96 rfl rfl rfl <|
       sq_skipu 96 rfl rfl rfl <|
       sq_skipu 96 rfl rfl rfl <|
       sq_skipu 96 rfl rfl rfl <|
       sq_skip 91 rfl rfl rfl rfl <|
       sq_end) rfl (fun hg a w hF hS KG => ?_) ?_
     ·have hg := hg
      refine wpl_sq hF hS (sq_go 91 rfl rfl rfl (q_move rfl) <|
        sq_go 91 rfl rfl rfl (q_move rfl) <|
        sq_go 91 rfl rfl rfl (q_call fn24 rfl (fun w hS => rin_ct _ _ _ w (Sl.mono (hS.le zin0) has)) (fun _ _ _ h => h)) <|
        sq_go 91 rfl rfl rfl (q_not rfl) <|
        sq_go 91 rfl rfl rfl (q_move rfl) <|
        sq_end) ?_
      clear hF hS; intro a w hF hS
      refine wpl_andP 9 96 4 4 91 hF hS rfl rfl rfl rfl rfl rfl rfl (fun hg2 => have hg2 := (nd_true hg2); sq_go 96 rfl rfl rfl (q_ld_blkW ty33 1 rfl rfl bQ rfl) <|
        sq_go 96 rfl rfl rfl (q_move rfl) <|
        sq_go 96 rfl rfl rfl (q_call fn41 rfl (fun w hS => rix_ct _ _ _ _ _ _ w hxn (Sl.mono (hS.le zin0) hxs) (Sl.mono (hS.le zin0) hxb)) (fun _ _ _ h => h)) <|
        sq_go 96 rfl rfl rfl (q_gei rfl rfl) <|
        sq_end) rfl rfl ?_
      clear hF hS; intro a w hF hS
      refine wpl_sq hF hS (sq rfl (q_pick_f rfl rfl) <|
        sq_end) ?_
      clear hF hS; intro a w hF hS
      exact KG _ _ (hF.under 6 rfl rfl) hS
     clear hF hS; intro a w hF hS
     refine wpList_nil ?_
     refine hK23 _ _ ?_
     clear hK23
     refine wp_if hF rfl (fun hc6 => ?_) (fun hc6 => ?_)
     ·(try simp only [Bool.or_eq_true, Bool.and_eq_true, Bool.or_eq_false_iff, Bool.and_eq_false_iff, decide_eq_true_eq, decide_eq_false_iff_not, Bool.not_eq_true', Bool.not_eq_false'] at hc6)
      refine wp_seq_k ?_; intro K24 hK24
      refine reg hF hS (sq rfl (q_assign rfl) <|
        sq_end) ?_
      clear hF hS; intro a w hF hS
      refine hK24 _ _ ?_
      clear hK24
      refine wp_ret ?_
      exact fn_ret (rs := [.tmp 10]) rfl hF hS (vs := [_]) ⟨rfl, trivial⟩ zQ zQ (by rw [Gp.chk_b (by simpa using hc1) (Gp.chB_2 (k := k.toNat) (by omega) (Gp.cbd_t (by rw [hkk]; exact hc5) hc6))])
     ·(try simp only [Bool.or_eq_true, Bool.and_eq_true, Bool.or_eq_false_iff, Bool.and_eq_false_iff, decide_eq_true_eq, decide_eq_false_iff_not, Bool.not_eq_true', Bool.not_eq_false'] at hc6)
      refine wp_skip ?_
      refine hK18 _ _ ?_
      clear hK18
      refine reg hF hS (sq rfl (q_move rfl) <|
        sq rfl (q_addi rfl rfl (by omega)) <|
        sq rfl (q_assign rfl) <|
        sq_end) ?_
      clear hF hS; intro a w hF hS
      refine ⟨(k + 1), ?_, ?_, hF.sub ⟨(by rw [show (k + 1).toNat = k.toNat + 1 by omega]; first | (rw [Gp.cst_in (by rw [hkk]; exact hc5)]; rfl) | (rw [Gp.cst_out (by rw [hkk]; exact hc5)]; rfl)), rfl, rfl, rfl, rfl, rfl, rfl, trivial⟩, ?_⟩
      ·(try dsimp only); omega
      ·refine ⟨by omega, by omega, fun j hj => ?_⟩
       by_cases hjk : j = k.toNat
       ·subst hjk; exact (Gp.cbd_f hc6)
       ·exact hkc j (by omega)
      ·exact hS
   ·obtain rfl : k = ch.length := by omega
    rw [Int.toNat_natCast] at hF hkc
    refine wp_exit ?_
    refine hK14 _ _ ?_
    clear hK14
    refine wp_seq_k ?_; intro K25 hK25
    refine wp_seq_k ?_; intro K26 hK26
    refine regl ?_
    refine wpl_sq hF hS (sq rfl (q_ld_blkW ty33 1 rfl rfl bQ rfl) <|
      sq rfl (q_move rfl) <|
      sq rfl (q_move rfl) <|
      sq rfl (q_call fn35 rfl (fun w hS => rgood_ct _ _ _ _ _ _ _ _ (by omega) (by omega) w hxn (Sl.mono (hS.le zin0) hxs) (Sl.mono (hS.le zin0) hxb) (Sl.mono (hS.le zin0) hbs)) (fun _ _ _ h => h)) <|
      sq rfl (q_not rfl) <|
      sq rfl (q_move rfl) <|
      sq_end) ?_
    clear hF hS; intro a w hF hS
    refine wpl_orG (q := (!decide ((Gp.cst taken ch base ch.length) = base) && !decide ((Gp.cst taken ch base ch.length) ∈ asked))) 108 10 hF hS rfl (by rfl) rfl (fun _ => sq_skip 108 rfl rfl rfl rfl <|
      sq_skip 108 rfl rfl rfl rfl <|
      sq_skip 108 rfl rfl rfl rfl <|
      sq_skip 108 rfl rfl rfl rfl <|
      sq_skip 108 rfl rfl rfl rfl <|
      sq_skipu 113 rfl rfl rfl <|
      sq_skipu 113 rfl rfl rfl <|
      sq_skipu 113 rfl rfl rfl <|
      sq_skipu 113 rfl rfl rfl <|
      sq_skip 108 rfl rfl rfl rfl <|
      sq_end) rfl (fun hg a w hF hS KG => ?_) ?_
    ·have hg := hg
     refine wpl_sq hF hS (sq_go 108 rfl rfl rfl (q_move rfl) <|
       sq_go 108 rfl rfl rfl (q_fieldAddr ty37 rfl rfl (s' := 0) kQ) <|
       sq_go 108 rfl rfl rfl (q_ld_blk1 ty3 0 rfl rfl rfl rfl) <|
       sq_go 108 rfl rfl rfl (q_nei rfl rfl) <|
       sq_go 108 rfl rfl rfl (q_move rfl) <|
       sq_end) ?_
     clear hF hS; intro a w hF hS
     refine wpl_andP 10 113 4 5 108 hF hS rfl rfl rfl rfl rfl rfl rfl (fun hg2 => have hg2 := (nd_true hg2); sq_go 113 rfl rfl rfl (q_move rfl) <|
       sq_go 113 rfl rfl rfl (q_move rfl) <|
       sq_go 113 rfl rfl rfl (q_call fn24 rfl (fun w hS => rin_ct _ _ _ w (Sl.mono (hS.le zin0) has)) (fun _ _ _ h => h)) <|
       sq_go 113 rfl rfl rfl (q_not rfl) <|
       sq_end) rfl rfl ?_
     clear hF hS; intro a w hF hS
     refine wpl_sq hF hS (sq rfl (q_pick_f rfl rfl) <|
       sq_end) ?_
     clear hF hS; intro a w hF hS
     exact KG _ _ (hF.under 6 rfl rfl) hS
    clear hF hS; intro a w hF hS
    refine wpList_nil ?_
    refine hK26 _ _ ?_
    clear hK26
    refine wp_if hF rfl (fun hc7 => ?_) (fun hc7 => ?_)
    ·(try simp only [Bool.or_eq_true, Bool.and_eq_true, Bool.or_eq_false_iff, Bool.and_eq_false_iff, decide_eq_true_eq, decide_eq_false_iff_not, Bool.not_eq_true', Bool.not_eq_false'] at hc7)
     refine wp_seq_k ?_; intro K27 hK27
     refine reg hF hS (sq rfl (q_assign rfl) <|
       sq_end) ?_
     clear hF hS; intro a w hF hS
     refine hK27 _ _ ?_
     clear hK27
     refine wp_ret ?_
     exact fn_ret (rs := [.tmp 10]) rfl hF hS (vs := [_]) ⟨rfl, trivial⟩ zQ zQ (by rw [Gp.chk_b (by simpa using hc1) (Gp.chB_3 (by simpa using hc7))])
    ·(try simp only [Bool.or_eq_true, Bool.and_eq_true, Bool.or_eq_false_iff, Bool.and_eq_false_iff, decide_eq_true_eq, decide_eq_false_iff_not, Bool.not_eq_true', Bool.not_eq_false'] at hc7)
     refine wp_skip ?_
     refine hK25 _ _ ?_
     clear hK25
     refine wp_seq_k ?_; intro K28 hK28
     refine reg hF hS (sq rfl (q_assign rfl) <|
       sq_end) ?_
     clear hF hS; intro a w hF hS
     refine hK28 _ _ ?_
     clear hK28
     refine wp_ret ?_
     exact fn_ret (rs := [.tmp 10]) rfl hF hS (vs := [_]) ⟨rfl, trivial⟩ zQ zQ (by rw [Gp.chk_t (by simpa using hc1) (Gp.chB_4 htk hkc (by simpa [Decidable.or_iff_not_imp_left] using hc7))])
end Go.Proofs.Ytplceoanaoeejaa
