/- A text of a proof over this seat: walks over the program's functions and the plain laws that they need. -/
import Derived.Test.YtplceoanaoeejaaQp18
import Derived.Test.YtplceoanaoeejaaGpA
import Derived.Test.YtplceoanaoeejaaFwC
import Derived.Test.YtplceoanaoeejaaFwB
set_option linter.all false
namespace Go.Proofs.Ytplceoanaoeejaa
open Go.Fw


set_option maxRecDepth 4000 in
set_option maxHeartbeats 2000000 in
theorem rshares_ct (xN xS xB : Value) (xs : List Int) (xb : List Bool) (base : Int) (cV : Value) (ch : List Int) (v1 : Value) (asked : List Int) (v2 : Value) (known : List Int) (hl : asked.length ≤ 1000) (hk8 : known.length ≤ 17592186045440) (w : World) (hxn : xN.oneCell' = true) (hxs : Sl encI (ph w) xS xs) (hxb : Sl encT (ph w) xB xb) (hc : Sl encI (ph w) cV ch) (ha : Sl encI (ph w) v1 asked) (hk : Sl encI (ph w) v2 known) : Ct Try.prog 23 [.agg [xN, xS, xB].toArray, .agg [vi base, cV].toArray, v1, v2] w (SlE encI (Gp.sL xs xb base ch asked known) (Gp.sE xs xb base ch asked known)) := by
 refine fn_enter Try.func23 rfl Try.ntmps23 (Nat.le_of_ble_eq_true rfl) fun a hF hS => ?_
 have hsl := hxs.1
 have har := sl_rng ha
 have hall : (asked ++ known).length = asked.length + known.length := List.length_append
 refine wp_seq_k ?_; intro K1 hK1
 refine regl ?_
 refine wpl_ef hF hS rfl (ef_boxA rfl) ?_
 clear hF hS; rintro _ _ _ a w ⟨b1, rfl, rfl, rfl⟩ hF hS
 refine wpl_ef hF hS rfl (ef_boxA rfl) ?_
 clear hF hS; rintro _ _ _ a w ⟨b2, rfl, rfl, rfl⟩ hF hS
 refine wpl_sq hF hS (sq rfl (q_assign rfl) <|
   sq rfl (q_assign rfl) <|
   sq_end) ?_
 clear hF hS; intro a w hF hS
 refine wpList_nil ?_
 refine hK1 _ _ ?_
 clear hK1
 refine wp_seq_k ?_; intro K2 hK2
 refine reg hF hS (sq rfl (q_ld_blkW ty33 1 rfl rfl bQ rfl) <|
   sq rfl (q_ld_blkW ty37 0 rfl rfl bQ rfl) <|
   sq rfl (q_call fn16 rfl (fun w hS => rvalid_ct _ _ _ _ _ _ _ _ w hxn (Sl.mono (hS.le zin0) hxs) (Sl.mono (hS.le zin0) hxb) (Sl.mono (hS.le zin0) hc)) (fun _ _ _ h => h)) <|
   sq rfl (q_assign rfl) <|
   sq_end) ?_
 clear hF hS; intro a w hF hS
 refine hK2 _ _ ?_
 clear hK2
 refine wp_seq_k ?_; intro K3 hK3
 refine wp_seq_k ?_; intro K4 hK4
 refine reg hF hS (sq rfl (q_move rfl) <|
   sq rfl (q_nei rfl rfl) <|
   sq_end) ?_
 clear hF hS; intro a w hF hS
 refine hK4 _ _ ?_
 clear hK4
 refine wp_ifn hF rfl (fun hc1 => ?_) (fun hc1 => ?_)
 ·have hse : (Gp.sE xs xb base ch asked known) = Gp.vl xs xb base ch := by unfold Gp.sE; rw [if_pos hc1]
  refine wp_seq_k ?_; intro K5 hK5
  refine reg hF hS (sq rfl (q_move rfl) <|
    sq rfl (q_assign rfl) <|
    sq rfl (q_assign rfl) <|
    sq_end) ?_
  clear hF hS; intro a w hF hS
  refine hK5 _ _ ?_
  clear hK5
  refine wp_ret ?_
  replace hS := hS.zone00
  exact fn_ret (rs := [.tmp 8, .tmp 9]) rfl hF hS (vs := [_, _]) ⟨rfl, rfl, trivial⟩ (zs' := [_]) (hs' := []) (List.singleton_sublist.2 (by simp)) zQ (se_of ⟨_, _, (sl_nil (z := fun _ => none)), rfl, rfl, rfl⟩ (by unfold Gp.sL; rw [if_neg (by rw [hse]; exact hc1)]) (hse.symm))
 ·refine wp_skip ?_
  refine hK3 _ _ ?_
  clear hK3
  refine wp_seq_k ?_; intro K6 hK6
  refine regl ?_
  refine wpl_ef hF hS rfl (ef_bslice0 ty22 ty3) ?_
  clear hF hS; rintro v3 _ _ a w ⟨rfl, rfl⟩ hF hS
  replace hS : St _ [] [_, _, _] _ := hS
  refine wpl_sq hF hS (sq rfl (q_move rfl) <|
    sq_end) ?_
  clear hF hS; intro a w hF hS
  refine wpl_ef hF hS rfl (ef_append ty22 ty3 0 rfl rfl rfl (src_slV ty22 ha zin0) bQ rfl (by decide)) ?_
  clear hF hS; rintro v5 _ _ a w ⟨rfl, rfl⟩ hF hS
  replace hS : St _ [] [_, _, _] _ := hS
  refine wpl_sq hF hS (sq rfl (q_move rfl) <|
    sq_end) ?_
  clear hF hS; intro a w hF hS
  refine wpl_ef hF hS rfl (ef_appendW ty22 ty3 0 rfl rfl rfl (src_slV ty22 hk zin0) bQ rfl (by decide)) ?_
  clear hF hS; rintro v6 _ _ a w ⟨rfl, rfl⟩ hF hS
  replace hS : St _ [] [_, _, _] _ := hS
  refine wpl_sq hF hS (sq rfl (q_assign rfl) <|
    sq_end) ?_
  clear hF hS; intro a w hF hS
  refine wpList_nil ?_
  replace hS := hS.rowEq (m' := (asked ++ known).length) (cs' := (asked ++ known).map vi) (by simp) (by simp)
  replace hS : St _ [] [_, _, _] _ := hS
  refine hK6 _ _ ?_
  clear hK6
  refine wp_seq_k ?_; intro K7 hK7
  refine wp_seq_k ?_; intro K8 hK8
  refine reg hF hS (sq rfl (q_assign rfl) <|
    sq_end) ?_
  clear hF hS; intro a w hF hS
  refine hK8 _ _ ?_
  clear hK8
  refine wp_block ?_
  obtain ⟨hs0, hhs0, hS⟩ : ∃ h, h = _ ∧ St _ _ h _ := ⟨_, rfl, hS⟩
  refine wp_loopx (γ := Int) (0) (fun (i : Int) => [(12, vi i)]) [(2, _), (3, _), (4, _), (5, _), (11, _)] (fun (i : Int) => hs0) (fun (i : Int) => 0 ≤ i ∧ i ≤ (asked ++ known).length ∧ ((asked ++ known).take i.toNat).any (fun s => decide (Gp.ix xs s < 0)) = false) (fun (i : Int) => ((asked ++ known).length - i).toNat) (hF.sub ⟨rfl, rfl, rfl, rfl, rfl, rfl, trivial⟩) (by subst hhs0; exact hS) (by exact ⟨Int.le_refl _, by omega, by simp⟩) ?_
  clear hF hS; rintro i a w hfact hF hS
  subst hhs0; (try dsimp only at hfact); (try dsimp only at hF); (try dsimp only at hS)
  obtain ⟨hi0, hi1, hno⟩ := hfact
  replace hS : St _ [] [_, _, _] _ := hS
  refine wp_seq_k ?_; intro K9 hK9
  refine wp_seq_k ?_; intro K10 hK10
  refine reg hF hS (sq rfl (q_move rfl) <|
    sq rfl (q_move rfl) <|
    sq rfl (q_len_row ty22 0 rfl rfl) <|
    sq rfl (q_lti rfl rfl) <|
    sq_end) ?_
  clear hF hS; intro a w hF hS
  refine hK10 _ _ ?_
  clear hK10
  refine wp_ifd hF rfl (fun hc2 => ?_) (fun hc2 => ?_)
  ·refine wp_skip ?_
   refine hK9 _ _ ?_
   clear hK9
   refine wp_seq_k ?_; intro K11 hK11
   refine wp_block ?_
   refine wp_seq_k ?_; intro K12 hK12
   refine regd mixed kQ hF hS (sq rfl (q_ld_blkW ty33 2 rfl rfl bQ rfl) <|
     sq rfl (q_move rfl) <|
     sq rfl (q_move rfl) <|
     sq rfl (q_idx_row ty22 ty3 0 rfl rfl rfl (by omega)) <|
     sq rfl (q_ld_rowM ty3 0 (0 : Int) rfl rfl bQ rfl) <|
     sq rfl (q_call fn41 rfl (fun w hS => rix_ct _ _ _ _ _ _ w hxn (Sl.mono (hS.le zin0) hxs) (Sl.mono (hS.le zin0) hxb)) (fun _ _ _ h => h)) <|
     sq rfl (q_lti rfl rfl) <|
     sq_end) ?_
   clear hF hS; intro a w hF hS
   refine hK12 _ _ ?_
   clear hK12
   refine wp_ifd hF rfl (fun hc3 => ?_) (fun hc3 => ?_)
   ·have hse : (Gp.sE xs xb base ch asked known) = 6 := by unfold Gp.sE; rw [if_neg (by simpa using hc1), if_pos (by rw [← Bool.or_eq_true, ← List.any_append]; exact List.any_eq_true.2 ⟨_, getD_mem (k := i.toNat) (by omega), decide_eq_true hc3⟩)]
    refine wp_seq_k ?_; intro K13 hK13
    refine reg hF hS (sq rfl (q_assign rfl) <|
      sq rfl (q_assign rfl) <|
      sq_end) ?_
    clear hF hS; intro a w hF hS
    refine hK13 _ _ ?_
    clear hK13
    refine wp_ret ?_
    replace hS := hS.zone00
    exact fn_ret (rs := [.tmp 8, .tmp 9]) rfl hF hS (vs := [_, _]) ⟨rfl, rfl, trivial⟩ (zs' := [_]) (hs' := []) (List.singleton_sublist.2 (by simp)) zQ (se_of ⟨_, _, (sl_nil (z := fun _ => none)), rfl, rfl, rfl⟩ (by unfold Gp.sL; rw [if_neg (by rw [hse]; decide)]) (hse.symm))
   ·refine wp_skip ?_
    refine hK11 _ _ ?_
    clear hK11
    refine reg hF hS (sq rfl (q_move rfl) <|
      sq rfl (q_addi rfl rfl (by omega)) <|
      sq rfl (q_assign rfl) <|
      sq_end) ?_
    clear hF hS; intro a w hF hS
    refine ⟨(i + 1), ?_, ?_, hF.sub ⟨rfl, rfl, rfl, rfl, rfl, rfl, trivial⟩, ?_⟩
    ·(try dsimp only); omega
    ·exact ⟨by omega, by omega, by rw [show (i + 1).toNat = i.toNat + 1 by omega, Gu.any_take (by omega), hno, decide_eq_false (by omega)]; rfl⟩
    ·exact hS
  ·have hse : (Gp.sE xs xb base ch asked known) = 0 := by unfold Gp.sE; rw [if_neg (by simpa using hc1), if_neg (by rw [← Bool.or_eq_true, ← List.any_append]; rw [List.take_of_length_le (by omega)] at hno; rw [hno]; decide)]
   refine wp_exit ?_
   refine hK7 _ _ ?_
   clear hK7
   refine wp_seq_k ?_; intro K14 hK14
   refine reg hF hS (sq rfl (q_assign rfl) <|
     sq_end) ?_
   clear hF hS; intro a w hF hS
   replace hS := hS.nilRow 3 1
   refine hK14 _ _ ?_
   clear hK14
   refine wp_seq_k ?_; intro K15 hK15
   refine wp_seq_k ?_; intro K16 hK16
   refine reg hF hS (sq rfl (q_assign rfl) <|
     sq_end) ?_
   clear hF hS; intro a w hF hS
   refine hK16 _ _ ?_
   clear hK16
   refine wp_block ?_
   obtain ⟨hs0, hhs0, hS⟩ : ∃ h, h = _ ∧ St _ _ h _ := ⟨_, rfl, hS⟩
   refine wp_loopx (γ := Value × Int) ((Value.slice none 0 0), 0) (fun (gg : Value × Int) => match gg with | (u, k) => [(13, u), (14, vi k)]) [(2, _), (3, _), (5, _)] (fun (gg : Value × Int) => match gg with | (u, k) => (hs0.set 0 (.row u 3 1 (Gp.shr base known asked k.toNat).length ((Gp.shr base known asked k.toNat).map vi)))) (fun (gg : Value × Int) => match gg with | (u, k) => 0 ≤ k ∧ k ≤ asked.length) (fun (gg : Value × Int) => match gg with | (u, k) => (asked.length - k).toNat) (hF.sub ⟨rfl, rfl, rfl, rfl, rfl, trivial⟩) (by subst hhs0; exact hS) (by exact ⟨Int.le_refl _, by omega⟩) ?_
   clear hF hS; rintro ⟨u, k⟩ a w hfact hF hS
   subst hhs0; (try dsimp only at hfact); (try dsimp only at hF); (try dsimp only at hS)
   obtain ⟨hk0, hk1⟩ := hfact
   replace hS : St _ [] [_, _, _, _] _ := hS
   have hel := Gp.shr_len base known asked k.toNat
   have hrg : ∀ y ∈ Gp.shr base known asked k.toNat, -9223372036854775808 ≤ y ∧ y ≤ 9223372036854775807 := fun y hy => har y (Gp.shr_mem k.toNat (by omega) y hy)
   refine wp_seq_k ?_; intro K17 hK17
   refine wp_seq_k ?_; intro K18 hK18
   refine reg hF hS (sq rfl (q_move rfl) <|
     sq rfl (q_move rfl) <|
     sq rfl (q_len_sl ty22 ha rfl) <|
     sq rfl (q_lti rfl rfl) <|
     sq_end) ?_
   clear hF hS; intro a w hF hS
   refine hK18 _ _ ?_
   clear hK18
   refine wp_ifd hF rfl (fun hc4 => ?_) (fun hc4 => ?_)
   ·refine wp_skip ?_
    refine hK17 _ _ ?_
    clear hK17
    refine wp_seq_k ?_; intro K19 hK19
    refine wp_block ?_
    refine wp_seq_k ?_; intro K20 hK20
    refine regq mixed kQ hS ?_
    refine wpq_seg hF (sq rfl (q_move rfl) <|
      sq rfl (q_move rfl) <|
      sq rfl (q_idx_sl ty22 ty3 ha rfl rfl (by omega)) <|
      sq rfl (q_ld_I ty3 ha zin0 rfl rfl (by omega)) <|
      sq rfl (q_fieldAddr ty37 rfl rfl (s' := 0) kQ) <|
      sq rfl (q_ld_blk1 ty3 2 rfl rfl rfl rfl) <|
      sq rfl (q_nei rfl rfl) <|
      sq rfl (q_move rfl) <|
      sq_end) ?_
    clear hF; intro a hF
    refine wpq_and 7 52 7 hF rfl rfl rfl rfl rfl (fun hg => have hg := (nd_true hg); sq_go 52 rfl rfl rfl (q_move rfl) <|
      sq_go 52 rfl rfl rfl (q_move rfl) <|
      sq_go 52 rfl rfl rfl (q_move rfl) <|
      sq_go 52 rfl rfl rfl (q_idx_sl ty22 ty3 ha rfl rfl (by omega)) <|
      sq_go 52 rfl rfl rfl (q_ld_I ty3 ha zin0 rfl rfl (by omega)) <|
      sq_go 52 rfl rfl rfl (q_call fn24 rfl (fun w hS => rin_ct _ _ _ w (Sl.mono (hS.le zin0) hk)) (fun _ _ _ h => h)) <|
      sq_go 52 rfl rfl rfl (q_not rfl) <|
      sq_end) rfl rfl ?_
    clear hF; intro a hF
    refine wpq_seg hF (sq rfl (q_move rfl) <|
      sq_end) ?_
    clear hF; intro a hF
    refine wpq_and 16 61 7 hF rfl rfl rfl rfl rfl (fun hg => have hg := hg; sq_go 61 rfl rfl rfl (q_move rfl) <|
      sq_go 61 rfl rfl rfl (q_move rfl) <|
      sq_go 61 rfl rfl rfl (q_move rfl) <|
      sq_go 61 rfl rfl rfl (q_idx_sl ty22 ty3 ha rfl rfl (by omega)) <|
      sq_go 61 rfl rfl rfl (q_ld_I ty3 ha zin0 rfl rfl (by omega)) <|
      sq_go 61 rfl rfl rfl (q_call fn24 rfl (fun w hS => rin_ct _ _ _ w (own_slV (hS.own _ (List.mem_of_getElem? (i := 0) rfl)).1 (by first | assumption | (simp; done)) (by first | rfl | (simp; done) | (simp; omega) | omega) (by first | omega | (simp; omega)))) (fun _ _ _ h => h)) <|
      sq_go 61 rfl rfl rfl (q_not rfl) <|
      sq_end) rfl rfl ?_
    clear hF; intro a hF
    refine wpq_nil ?_
    clear hS; intro w hS
    refine hK20 _ _ ?_
    clear hK20
    refine wp_if hF rfl (fun hc5 => ?_) (fun hc5 => ?_)
    ·(try simp only [Bool.or_eq_true, Bool.and_eq_true, Bool.or_eq_false_iff, Bool.and_eq_false_iff, decide_eq_true_eq, decide_eq_false_iff_not, Bool.not_eq_true', Bool.not_eq_false'] at hc5)
     refine regl ?_
     refine wpl_sq hF hS (sq rfl (q_move rfl) <|
       sq rfl (q_move rfl) <|
       sq rfl (q_move rfl) <|
       sq rfl (q_idx_sl ty22 ty3 ha rfl rfl (by omega)) <|
       sq rfl (q_ld_I ty3 ha zin0 rfl rfl (by omega)) <|
       sq_end) ?_
     clear hF hS; intro a w hF hS
     refine wpl_ef hF hS rfl (ef_bsliceA ty22 ty3 rfl rfl oQ (by decide) rfl rfl) ?_
     clear hF hS; rintro v8 _ _ a w ⟨rfl, rfl⟩ hF hS
     replace hS : St _ [] [_, _, _, _, _] _ := hS
     refine wpl_ef hF hS rfl (ef_append ty22 ty3 1 rfl rfl rfl (src_row ty22 (k := 0) rfl oQ) bQ rfl (by decide)) ?_
     clear hF hS; rintro v10 _ _ a w ⟨rfl, rfl⟩ hF hS
     replace hS : St _ [] [_, _, _, _, _] _ := hS
     refine wpl_sq hF hS (sq rfl (q_assign rfl) <|
       sq_end) ?_
     clear hF hS; intro a w hF hS
     refine wpList_nil ?_
     refine hK19 _ _ ?_
     clear hK19
     refine reg hF hS (sq rfl (q_move rfl) <|
       sq rfl (q_addi rfl rfl (by omega)) <|
       sq rfl (q_assign rfl) <|
       sq_end) ?_
     clear hF hS; intro a w hF hS
     replace hS := hS.keep zQ (sQ.n)
     refine ⟨(v10, k + 1), ?_, ?_, hF.sub ⟨rfl, rfl, rfl, rfl, rfl, trivial⟩, ?_⟩
     ·(try dsimp only); omega
     ·(try dsimp only); omega
     ·dsimp only; rw [show (k + 1).toNat = k.toNat + 1 by omega, Gp.shr_t hc5, show List.map vi ((Gp.shr base known asked k.toNat) ++ [(asked.getD k.toNat 0)]) = List.map vi (Gp.shr base known asked k.toNat) ++ List.map vi [(asked.getD k.toNat 0)] from List.map_append, show ((Gp.shr base known asked k.toNat) ++ [(asked.getD k.toNat 0)]).length = (Gp.shr base known asked k.toNat).length + [(asked.getD k.toNat 0)].length from List.length_append]; exact hS
    ·(try simp only [Bool.or_eq_true, Bool.and_eq_true, Bool.or_eq_false_iff, Bool.and_eq_false_iff, decide_eq_true_eq, decide_eq_false_iff_not, Bool.not_eq_true', Bool.not_eq_false'] at hc5)
     refine wp_skip ?_
     refine hK19 _ _ ?_
     clear hK19
     refine reg hF hS (sq rfl (q_move rfl) <|
       sq rfl (q_addi rfl rfl (by omega)) <|
       sq rfl (q_assign rfl) <|
       sq_end) ?_
     clear hF hS; intro a w hF hS
     refine ⟨(u, k + 1), ?_, ?_, hF.sub ⟨rfl, rfl, rfl, rfl, rfl, trivial⟩, ?_⟩
     ·(try dsimp only); omega
     ·(try dsimp only); omega
     ·dsimp only; rw [show (k + 1).toNat = k.toNat + 1 by omega, Gp.shr_f hc5]; exact hS
   ·obtain rfl : k = asked.length := by omega
    rw [Int.toNat_natCast] at hS
    have hel := Gp.shr_len base known asked asked.length
    refine wp_exit ?_
    refine hK15 _ _ ?_
    clear hK15
    refine wp_seq_k ?_; intro K21 hK21
    refine reg hF hS (sq rfl (q_move rfl) <|
      sq rfl (q_assign rfl) <|
      sq rfl (q_assign rfl) <|
      sq_end) ?_
    clear hF hS; intro a w hF hS
    refine hK21 _ _ ?_
    clear hK21
    refine wp_ret ?_
    obtain ⟨zr, hzr, hS⟩ := St.freezeV (f := vi) (p := fun x => -9223372036854775808 ≤ x ∧ x ≤ 9223372036854775807) hS rfl (by first | omega | (simp; omega)) (fun y hy => har y (Gp.shr_mem _ (Nat.le_refl _) y hy))
    exact fn_ret (rs := [.tmp 8, .tmp 9]) rfl hF hS (vs := [_, _]) ⟨rfl, rfl, trivial⟩ (zs' := [_]) (hs' := []) (List.singleton_sublist.2 (by simp)) zQ (se_of ⟨_, _, hzr, rfl, rfl, rfl⟩ (by unfold Gp.sL; rw [if_pos hse]) (hse.symm))
end Go.Proofs.Ytplceoanaoeejaa
