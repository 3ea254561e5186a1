/- A text of a proof over this seat: walks over the program's functions and the plain laws that they need. -/
import Derived.Test.YtefjpigmgmbghaaHg11
import Derived.Test.YtefjpigmgmbghaaGuA
import Derived.Test.YtefjpigmgmbghaaFwB
set_option linter.all false
namespace Go.Proofs.Ytefjpigmgmbghaa
open Go.Fw
theorem fn64 : FnOk Try.prog 64 := ⟨_, Try.func64, rfl, by kernel_rfl⟩

/-- This list, sorted by size. -/
def SlN (l : List Int) (r : Value) (zs : List PH) (hs : List Res) : Prop := ∃ xs : List Int, xs.Perm l ∧ (xs.Pairwise fun a b => Gu.size a 64 ≤ Gu.size b 64) ∧ SlR encI xs r zs hs

set_option maxRecDepth 4000 in
set_option maxHeartbeats 2000000 in
theorem sorted_ct (v : Value) (l : List Int) (hl : l.length < 1048576) (w : World) (hb : Sl encI (ph w) v l) : Ct Try.prog 49 [v] w (SlN l) := by
 refine fn_enter Try.func49 rfl Try.ntmps49 (Nat.le_of_ble_eq_true rfl) fun a hF hS => ?_
 have hbl := hb.1
 refine wp_seq_k ?_; intro K1 hK1
 refine reg hF hS (sq rfl (q_assign rfl) <|
   sq_end) ?_
 clear hF hS; intro a w hF hS
 refine hK1 _ _ ?_
 clear hK1
 refine wp_seq_k ?_; intro K2 hK2
 refine reg hF hS (sq rfl (q_assign rfl) <|
   sq_end) ?_
 clear hF hS; intro a w hF hS
 replace hS := hS.nilRow 3 1
 refine hK2 _ _ ?_
 clear hK2
 refine wp_seq_k ?_; intro K3 hK3
 refine wp_seq_k ?_; intro K4 hK4
 refine reg hF hS (sq rfl (q_assign rfl) <|
   sq_end) ?_
 clear hF hS; intro a w hF hS
 refine hK4 _ _ ?_
 clear hK4
 refine wp_block ?_
 obtain ⟨hs0, hhs0, hS⟩ : ∃ h, h = _ ∧ St _ _ h _ := ⟨_, rfl, hS⟩
 refine wp_loopx (γ := Value × List Int × Int) ((Value.slice none 0 0), [], 0) (fun (gg : Value × List Int × Int) => match gg with | (u, ys, i) => [(3, u), (4, vi i)]) [(0, _)] (fun (gg : Value × List Int × Int) => match gg with | (u, ys, i) => (hs0.set 0 (.row u 3 1 ys.length (ys.map vi)))) (fun (gg : Value × List Int × Int) => match gg with | (u, ys, i) => 0 ≤ i ∧ i ≤ l.length ∧ ys.Perm (l.take i.toNat) ∧ ys.Pairwise fun a b => Gu.size a 64 ≤ Gu.size b 64) (fun (gg : Value × List Int × Int) => match gg with | (u, ys, i) => (l.length - i).toNat) (hF.sub ⟨rfl, rfl, rfl, trivial⟩) (by subst hhs0; exact hS) (by exact ⟨Int.le_refl _, by omega, List.Perm.refl _, List.Pairwise.nil⟩) ?_
 clear hF hS; rintro ⟨u, ys, i⟩ a w hfact hF hS
 subst hhs0; (try dsimp only at hfact); (try dsimp only at hF); (try dsimp only at hS)
 obtain ⟨hi0, hi1, hpm, hpo⟩ := hfact
 replace hS : St _ [] [_] _ := hS
 have hyl : (ys.length : Int) = i := by rw [hpm.length_eq, List.length_take]; omega
 have hym : ∀ y ∈ ys, y ∈ l := fun y hy => List.mem_of_mem_take (hpm.mem_iff.1 hy)
 have hrg := fun x hx => sl_rng hb x (hym x hx)
 refine wp_seq_k ?_; intro K5 hK5
 refine wp_seq_k ?_; intro K6 hK6
 refine reg hF hS (sq rfl (q_move rfl) <|
   sq rfl (q_move rfl) <|
   sq rfl (q_len_sl ty22 hb rfl) <|
   sq rfl (q_lti rfl rfl) <|
   sq_end) ?_
 clear hF hS; intro a w hF hS
 refine hK6 _ _ ?_
 clear hK6
 refine wp_ifd hF rfl (fun hc1 => ?_) (fun hc1 => ?_)
 ·refine wp_skip ?_
  refine hK5 _ _ ?_
  clear hK5
  refine wp_seq_k ?_; intro K7 hK7
  refine wp_block ?_
  refine wp_seq_k ?_; intro K8 hK8
  refine reg hF hS (sq rfl (q_move rfl) <|
    sq rfl (q_len_row ty22 0 rfl rfl) <|
    sq rfl (q_assign rfl) <|
    sq_end) ?_
  clear hF hS; intro a w hF hS
  refine hK8 _ _ ?_
  clear hK8
  refine wp_seq_k ?_; intro K9 hK9
  refine wp_block ?_
  obtain ⟨hs0, hhs0, hS⟩ : ∃ h, h = _ ∧ St _ _ h _ := ⟨_, rfl, hS⟩
  refine wp_loopx (γ := Int) ((ys.length : Int)) (fun (k : Int) => [(5, vi k)]) [(0, _), (3, _), (4, _)] (fun (k : Int) => hs0) (fun (k : Int) => 0 ≤ k ∧ k ≤ ys.length ∧ ∀ j, k.toNat ≤ j → j < ys.length → Gu.size (l.getD i.toNat 0) 64 ≤ Gu.size (ys.getD j 0) 64) (fun (k : Int) => k.toNat) (hF.sub ⟨rfl, rfl, rfl, rfl, trivial⟩) (by subst hhs0; exact hS) (by exact ⟨by omega, Int.le_refl _, fun j h1 h2 => by omega⟩) ?_
  clear hF hS; rintro k a w hfact hF hS
  subst hhs0; (try dsimp only at hfact); (try dsimp only at hF); (try dsimp only at hS)
  obtain ⟨hk0, hk1, hlo⟩ := hfact
  replace hS : St _ [] [_] _ := hS
  refine wp_seq_k ?_; intro K10 hK10
  refine wp_seq_k ?_; intro K11 hK11
  refine regq mixed kQ hS ?_
  refine wpq_seg hF (sq rfl (q_move rfl) <|
    sq rfl (q_gti rfl rfl) <|
    sq rfl (q_move rfl) <|
    sq_end) ?_
  clear hF; intro a hF
  refine wpq_andG (q := (decide (Gu.size (l.getD i.toNat 0) 64 < Gu.size (ys.getD (k - 1).toNat 0) 64) || (decide (Gu.size (ys.getD (k - 1).toNat 0) 64 = Gu.size (l.getD i.toNat 0) 64) && decide ((l.getD i.toNat 0) < (ys.getD (k - 1).toNat 0))))) 16 38 hF rfl (by rfl) rfl (by exact trivial) (fun _ => sq_skip 16 rfl rfl rfl rfl <|
    sq_skip 16 rfl rfl rfl rfl <|
    sq_skip 16 rfl rfl rfl rfl <|
    sq_skip 16 rfl rfl rfl rfl <|
    sq_skip 16 rfl rfl rfl rfl <|
    sq_skip 16 rfl rfl rfl rfl <|
    sq_skip 16 rfl rfl rfl rfl <|
    sq_skip 16 rfl rfl rfl rfl <|
    sq_skip 16 rfl rfl rfl rfl <|
    sq_skip 16 rfl rfl rfl rfl <|
    sq_skip 16 rfl rfl rfl rfl <|
    sq_skip 16 rfl rfl rfl rfl <|
    sq_skip 16 rfl rfl rfl rfl <|
    sq_skipu 29 rfl rfl rfl <|
    sq_skipu 29 rfl rfl rfl <|
    sq_skipu 29 rfl rfl rfl <|
    sq_skipu 29 rfl rfl rfl <|
    sq_skipu 29 rfl rfl rfl <|
    sq_skipu 29 rfl rfl rfl <|
    sq_skipu 29 rfl rfl rfl <|
    sq_skipu 29 rfl rfl rfl <|
    sq_skipu 29 rfl rfl rfl <|
    sq_skipu 29 rfl rfl rfl <|
    sq_skipu 29 rfl rfl rfl <|
    sq_skipu 29 rfl rfl rfl <|
    sq_skipu 29 rfl rfl rfl <|
    sq_skipu 42 rfl rfl rfl <|
    sq_skipu 42 rfl rfl rfl <|
    sq_skipu 42 rfl rfl rfl <|
    sq_skipu 42 rfl rfl rfl <|
    sq_skipu 42 rfl rfl rfl <|
    sq_skipu 42 rfl rfl rfl <|
    sq_skipu 42 rfl rfl rfl <|
    sq_skipu 42 rfl rfl rfl <|
    sq_skipu 42 rfl rfl rfl <|
    sq_skipu 42 rfl rfl rfl <|
    sq_skipu 29 rfl rfl rfl <|
    sq_skip 16 rfl rfl rfl rfl <|
    sq_end) rfl (fun hg a hF KG => ?_) ?_
  ·have hg := (by first | exact of_decide_eq_true hg | exact hg)
   refine wpq_seg hF (sq_go 16 rfl rfl rfl (q_move rfl) <|
     sq_go 16 rfl rfl rfl (q_move rfl) <|
     sq_go 16 rfl rfl rfl (q_subi rfl rfl (by omega)) <|
     sq_go 16 rfl rfl rfl (q_idx_row ty22 ty3 0 rfl rfl rfl (by omega)) <|
     sq_go 16 rfl rfl rfl (q_ld_rowM ty3 0 (0 : Int) rfl rfl bQ rfl) <|
     sq_go 16 rfl rfl rfl (q_call fn64 rfl (fun w hS => size_ct _ w ) (fun _ _ _ h => h)) <|
     sq_go 16 rfl rfl rfl (q_move rfl) <|
     sq_go 16 rfl rfl rfl (q_move rfl) <|
     sq_go 16 rfl rfl rfl (q_idx_sl ty22 ty3 hb rfl rfl (by omega)) <|
     sq_go 16 rfl rfl rfl (q_ld_I ty3 hb zin0 rfl rfl (by omega)) <|
     sq_go 16 rfl rfl rfl (q_call fn64 rfl (fun w hS => size_ct _ w ) (fun _ _ _ h => h)) <|
     sq_go 16 rfl rfl rfl (q_gti rfl rfl) <|
     sq_go 16 rfl rfl rfl (q_move rfl) <|
     sq_end) ?_
   clear hF; intro a hF
   refine wpq_orG (q := (decide (Gu.size (ys.getD (k - 1).toNat 0) 64 = Gu.size (l.getD i.toNat 0) 64) && decide ((l.getD i.toNat 0) < (ys.getD (k - 1).toNat 0)))) 29 24 hF rfl (by rfl) rfl (by exact ⟨16, rfl, rfl⟩) (fun _ => sq_skip 29 rfl rfl rfl rfl <|
     sq_skip 29 rfl rfl rfl rfl <|
     sq_skip 29 rfl rfl rfl rfl <|
     sq_skip 29 rfl rfl rfl rfl <|
     sq_skip 29 rfl rfl rfl rfl <|
     sq_skip 29 rfl rfl rfl rfl <|
     sq_skip 29 rfl rfl rfl rfl <|
     sq_skip 29 rfl rfl rfl rfl <|
     sq_skip 29 rfl rfl rfl rfl <|
     sq_skip 29 rfl rfl rfl rfl <|
     sq_skip 29 rfl rfl rfl rfl <|
     sq_skip 29 rfl rfl rfl rfl <|
     sq_skip 29 rfl rfl rfl rfl <|
     sq_skipu 42 rfl rfl rfl <|
     sq_skipu 42 rfl rfl rfl <|
     sq_skipu 42 rfl rfl rfl <|
     sq_skipu 42 rfl rfl rfl <|
     sq_skipu 42 rfl rfl rfl <|
     sq_skipu 42 rfl rfl rfl <|
     sq_skipu 42 rfl rfl rfl <|
     sq_skipu 42 rfl rfl rfl <|
     sq_skipu 42 rfl rfl rfl <|
     sq_skipu 42 rfl rfl rfl <|
     sq_skip 29 rfl rfl rfl rfl <|
     sq_end) rfl (fun hg a hF KG => ?_) ?_
   ·have hg := (by first | exact of_decide_eq_false hg | exact hg)
    refine wpq_seg hF (sq_go 29 rfl rfl rfl (q_move rfl) <|
      sq_go 29 rfl rfl rfl (q_move rfl) <|
      sq_go 29 rfl rfl rfl (q_subi rfl rfl (by omega)) <|
      sq_go 29 rfl rfl rfl (q_idx_row ty22 ty3 0 rfl rfl rfl (by omega)) <|
      sq_go 29 rfl rfl rfl (q_ld_rowM ty3 0 (0 : Int) rfl rfl bQ rfl) <|
      sq_go 29 rfl rfl rfl (q_call fn64 rfl (fun w hS => size_ct _ w ) (fun _ _ _ h => h)) <|
      sq_go 29 rfl rfl rfl (q_move rfl) <|
      sq_go 29 rfl rfl rfl (q_move rfl) <|
      sq_go 29 rfl rfl rfl (q_idx_sl ty22 ty3 hb rfl rfl (by omega)) <|
      sq_go 29 rfl rfl rfl (q_ld_I ty3 hb zin0 rfl rfl (by omega)) <|
      sq_go 29 rfl rfl rfl (q_call fn64 rfl (fun w hS => size_ct _ w ) (fun _ _ _ h => h)) <|
      sq_go 29 rfl rfl rfl (q_eqi rfl rfl) <|
      sq_go 29 rfl rfl rfl (q_move rfl) <|
      sq_end) ?_
    clear hF; intro a hF
    refine wpq_andP 28 42 10 15 29 hF rfl rfl rfl rfl rfl rfl rfl (fun hg => have hg := (by first | exact of_decide_eq_true hg | exact hg); sq_go 42 rfl rfl rfl (q_move rfl) <|
      sq_go 42 rfl rfl rfl (q_move rfl) <|
      sq_go 42 rfl rfl rfl (q_subi rfl rfl (by omega)) <|
      sq_go 42 rfl rfl rfl (q_idx_row ty22 ty3 0 rfl rfl rfl (by omega)) <|
      sq_go 42 rfl rfl rfl (q_ld_rowM ty3 0 (0 : Int) rfl rfl bQ rfl) <|
      sq_go 42 rfl rfl rfl (q_move rfl) <|
      sq_go 42 rfl rfl rfl (q_move rfl) <|
      sq_go 42 rfl rfl rfl (q_idx_sl ty22 ty3 hb rfl rfl (by omega)) <|
      sq_go 42 rfl rfl rfl (q_ld_I ty3 hb zin0 rfl rfl (by omega)) <|
      sq_go 42 rfl rfl rfl (q_gti rfl rfl) <|
      sq_end) rfl rfl ?_
    clear hF; intro a hF
    refine wpq_seg hF (sqp rfl (by exact ⟨16, rfl, rfl⟩) (q_pick_f rfl rfl) <|
      sq_end) ?_
    clear hF; intro a hF
    exact KG _ (hF.under 14 rfl rfl)
   clear hF; intro a hF
   refine wpq_seg hF (sq rfl (q_pick_t rfl rfl) <|
     sq_end) ?_
   clear hF; intro a hF
   exact KG _ (hF.under 14 rfl rfl)
  clear hF; intro a hF
  refine wpq_nil ?_
  clear hS; intro w hS
  refine hK11 _ _ ?_
  clear hK11
  refine wp_if hF rfl (fun hc2 => ?_) (fun hc2 => ?_)
  ·(try simp only [Bool.or_eq_true, Bool.and_eq_true, Bool.or_eq_false_iff, Bool.and_eq_false_iff, decide_eq_true_eq, decide_eq_false_iff_not, Bool.not_eq_true', Bool.not_eq_false'] at hc2)
   refine wp_skip ?_
   refine hK10 _ _ ?_
   clear hK10
   refine wp_block ?_
   refine reg hF hS (sq rfl (q_move rfl) <|
     sq rfl (q_subi rfl rfl (by omega)) <|
     sq rfl (q_assign rfl) <|
     sq_end) ?_
   clear hF hS; intro a w hF hS
   refine ⟨(k - 1), ?_, ?_, hF.sub ⟨rfl, rfl, rfl, rfl, trivial⟩, ?_⟩
   ·(try dsimp only); omega
   ·exact ⟨by omega, by omega, Gu.ins_lo hc2.1 hc2.2 hlo⟩
   ·exact hS
  ·(try simp only [Bool.or_eq_true, Bool.and_eq_true, Bool.or_eq_false_iff, Bool.and_eq_false_iff, decide_eq_true_eq, decide_eq_false_iff_not, Bool.not_eq_true', Bool.not_eq_false'] at hc2)
   have hih := Gu.ins_hi hk0 hc2
   refine wp_exit ?_
   refine hK9 _ _ ?_
   clear hK9
   revert hS; revert hF; apply regJ (J := J5 (α0 := Value) (α1 := Value) (α2 := Value) (α3 := Value) (α4 := Value) 74 _ _ _ _ _) #[false, false, false, false, false, false, false, false, false, false, false, false, false, false, false, false] 16 mixed rfl rfl
   ·intro w hF hS
    refine goW_take 1 _ rfl kQ rfl hF (hS.keep sQ zQ) (q_move rfl) ?_
    clear hF; intro a hF
    refine goW_take 2 _ rfl kQ rfl hF (hS.keep sQ zQ) (q_move rfl) ?_
    clear hF; intro a hF
    refine goW_take 3 _ rfl kQ rfl hF (hS.keep sQ sQ) (q_slrow_hi ty22 ty3 0 rfl rfl rfl (by omega)) ?_
    clear hF; intro a hF
    refine goW_take 5 _ rfl kQ rfl hF (hS.keep sQ zQ) (q_move rfl) ?_
    clear hF; intro a hF
    refine goW_take 6 _ rfl kQ rfl hF (hS.keep sQ zQ) (q_move rfl) ?_
    clear hF; intro a hF
    refine goW_take 7 _ rfl kQ rfl hF (hS.keep sQ zQ) (q_idx_sl ty22 ty3 hb rfl rfl (by omega)) ?_
    clear hF; intro a hF
    refine goW_take 8 _ rfl kQ rfl hF (hS.keep sQ zQ) (q_ld_I ty3 hb zin0 rfl rfl (by omega)) ?_
    clear hF; intro a hF
    refine goW_take 11 _ rfl kQ rfl hF (hS.keep sQ zQ) (q_move rfl) ?_
    clear hF; intro a hF
    refine goW_take 12 _ rfl kQ rfl hF (hS.keep sQ zQ) (q_move rfl) ?_
    clear hF; intro a hF
    refine goW_take 13 _ rfl kQ rfl hF (hS.keep sQ sQ) (q_slrow_lo ty22 ty3 0 rfl rfl rfl (by omega)) ?_
    clear hF; intro a hF
    refine goW_fork [0, 9] kQ rfl ⟨?_, ?_, trivial⟩
    ·refine stepW_ef _ rfl rfl hF hS rfl (ef_bslice0 ty22 ty3) ?_
     clear hF hS; rintro v_8_0 _ _ a w ⟨rfl, rfl⟩ hF hS
     refine ⟨⟨.inr (hS.k1 (sQ.n)), .inr hS.k0, .inr hS.k0, .inr hS.k0, .inr hS.k0, .inr hS.k0, .inr hS.k0, .inr (hS.k1 (sQ.n)), .inr hS.k0, .inr hS.k0, trivial⟩, ?_⟩
     refine goW_fork [4, 9] kQ rfl ⟨?_, ?_, trivial⟩
     ·refine stepW_ef _ rfl rfl hF hS rfl (ef_append ty22 ty3 0 rfl rfl rfl (src_slrow ty22 (q := 1) rfl oQ (by omega)) bQ rfl (by decide)) ?_
      clear hF hS; rintro v_8_4 _ _ a w ⟨rfl, rfl⟩ hF hS
      refine ⟨⟨.inr (hS.k1 (sQ.n)), .inr hS.k0, .inr hS.k0, .inr hS.k0, .inr hS.k0, .inr hS.k0, .inr hS.k0, iQ, iQ, iQ, trivial⟩, ?_⟩
      refine gQ 9 rfl rfl hF hS rfl (ef_bsliceA ty22 ty3 rfl rfl oQ (by decide) rfl rfl) ?_
      clear hF hS; rintro v_8_9 _ _ a w ⟨rfl, rfl⟩ hF hS
      refine ⟨⟨.inr (hS.k1 (sQ.n.n)), .inr hS.k0, .inr hS.k0, iQ, iQ, .inr hS.k0, .inr hS.k0, iQ, iQ, iQ, trivial⟩, ?_⟩
      refine gQ 10 rfl rfl hF hS rfl (ef_append ty22 ty3 1 rfl rfl rfl (src_row ty22 (k := 0) rfl oQ) bQ rfl (by decide)) ?_
      clear hF hS; rintro v_8_10 _ _ a w ⟨rfl, rfl⟩ hF hS
      refine ⟨⟨.inr (hS.k1 (sQ.n.n)), .inr hS.k0, .inr hS.k0, iQ, iQ, .inr hS.k0, .inr hS.k0, iQ, iQ, iQ, trivial⟩, ?_⟩
      refine gQ 14 rfl rfl hF hS rfl (ef_append ty22 ty3 1 rfl rfl rfl (src_slrow ty22 (q := 2) rfl oQ (by omega)) bQ rfl (by decide)) ?_
      clear hF hS; rintro v_8_14 _ _ a w ⟨rfl, rfl⟩ hF hS
      refine ⟨⟨iQ, iQ, iQ, iQ, iQ, .inr hS.k0, .inr hS.k0, iQ, iQ, iQ, trivial⟩, ?_⟩
      refine goW_take 15 _ rfl kQ rfl hF (hS.keep sQ zQ) (q_assign rfl) ?_
      clear hF; intro a hF
      exact goW_done kQ (j5_mk v_8_0 v_8_4 v_8_9 v_8_10 v_8_14 (trivial) (hF.sub (L' := [(0, _), (3, _), (4, _)]) ⟨rfl, rfl, rfl, trivial⟩) hS)
     ·refine stepW_ef _ rfl rfl hF hS rfl (ef_bsliceA ty22 ty3 rfl rfl oQ (by decide) rfl rfl) ?_
      clear hF hS; rintro v_8_9 _ _ a w ⟨rfl, rfl⟩ hF hS
      refine ⟨⟨.inr (hS.k1 (sQ.n.n)), .inr hS.k0, .inr hS.k0, iQ, iQ, .inr hS.k0, .inr hS.k0, .inr (hS.k1 (sQ.n.n)), .inr hS.k0, .inr hS.k0, trivial⟩, ?_⟩
      refine gQ 4 rfl rfl hF hS rfl (ef_append ty22 ty3 1 rfl rfl rfl (src_slrow ty22 (q := 2) rfl oQ (by omega)) bQ rfl (by decide)) ?_
      clear hF hS; rintro v_8_4 _ _ a w ⟨rfl, rfl⟩ hF hS
      refine ⟨⟨.inr (hS.k1 (sQ.n.n)), .inr hS.k0, .inr hS.k0, iQ, iQ, .inr hS.k0, .inr hS.k0, iQ, iQ, iQ, trivial⟩, ?_⟩
      refine gQ 10 rfl rfl hF hS rfl (ef_append ty22 ty3 1 rfl rfl rfl (src_row ty22 (k := 0) rfl oQ) bQ rfl (by decide)) ?_
      clear hF hS; rintro v_8_10 _ _ a w ⟨rfl, rfl⟩ hF hS
      refine ⟨⟨.inr (hS.k1 (sQ.n.n)), .inr hS.k0, .inr hS.k0, iQ, iQ, .inr hS.k0, .inr hS.k0, iQ, iQ, iQ, trivial⟩, ?_⟩
      refine gQ 14 rfl rfl hF hS rfl (ef_append ty22 ty3 1 rfl rfl rfl (src_slrow ty22 (q := 2) rfl oQ (by omega)) bQ rfl (by decide)) ?_
      clear hF hS; rintro v_8_14 _ _ a w ⟨rfl, rfl⟩ hF hS
      refine ⟨⟨iQ, iQ, iQ, iQ, iQ, .inr hS.k0, .inr hS.k0, iQ, iQ, iQ, trivial⟩, ?_⟩
      refine goW_take 15 _ rfl kQ rfl hF (hS.keep sQ zQ) (q_assign rfl) ?_
      clear hF; intro a hF
      exact goW_done kQ (j5_mk v_8_0 v_8_4 v_8_9 v_8_10 v_8_14 (trivial) (hF.sub (L' := [(0, _), (3, _), (4, _)]) ⟨rfl, rfl, rfl, trivial⟩) hS)
    ·refine stepW_ef _ rfl rfl hF hS rfl (ef_bsliceA ty22 ty3 rfl rfl oQ (by decide) rfl rfl) ?_
     clear hF hS; rintro v_8_9 _ _ a w ⟨rfl, rfl⟩ hF hS
     refine ⟨⟨.inr (hS.k1 (sQ.n)), .inr hS.k0, .inr hS.k0, iQ, iQ, .inr hS.k0, .inr hS.k0, .inr (hS.k1 (sQ.n)), .inr hS.k0, .inr hS.k0, trivial⟩, ?_⟩
     refine gQ 0 rfl rfl hF hS rfl (ef_bslice0 ty22 ty3) ?_
     clear hF hS; rintro v_8_0 _ _ a w ⟨rfl, rfl⟩ hF hS
     refine ⟨⟨.inr (hS.k1 (sQ.n.n)), .inr hS.k0, .inr hS.k0, iQ, iQ, .inr hS.k0, .inr hS.k0, .inr (hS.k1 (sQ.n.n)), .inr hS.k0, .inr hS.k0, trivial⟩, ?_⟩
     refine gQ 4 rfl rfl hF hS rfl (ef_append ty22 ty3 0 rfl rfl rfl (src_slrow ty22 (q := 2) rfl oQ (by omega)) bQ rfl (by decide)) ?_
     clear hF hS; rintro v_8_4 _ _ a w ⟨rfl, rfl⟩ hF hS
     refine ⟨⟨.inr (hS.k1 (sQ.n.n)), .inr hS.k0, .inr hS.k0, iQ, iQ, .inr hS.k0, .inr hS.k0, iQ, iQ, iQ, trivial⟩, ?_⟩
     refine gQ 10 rfl rfl hF hS rfl (ef_append ty22 ty3 0 rfl rfl rfl (src_row ty22 (k := 1) rfl oQ) bQ rfl (by decide)) ?_
     clear hF hS; rintro v_8_10 _ _ a w ⟨rfl, rfl⟩ hF hS
     refine ⟨⟨.inr (hS.k1 (sQ.n.n)), .inr hS.k0, .inr hS.k0, iQ, iQ, .inr hS.k0, .inr hS.k0, iQ, iQ, iQ, trivial⟩, ?_⟩
     refine gQ 14 rfl rfl hF hS rfl (ef_append ty22 ty3 0 rfl rfl rfl (src_slrow ty22 (q := 2) rfl oQ (by omega)) bQ rfl (by decide)) ?_
     clear hF hS; rintro v_8_14 _ _ a w ⟨rfl, rfl⟩ hF hS
     refine ⟨⟨iQ, iQ, iQ, iQ, iQ, .inr hS.k0, .inr hS.k0, iQ, iQ, iQ, trivial⟩, ?_⟩
     refine goW_take 15 _ rfl kQ rfl hF (hS.keep sQ zQ) (q_assign rfl) ?_
     clear hF; intro a hF
     exact goW_done kQ (j5_mk v_8_0 v_8_4 v_8_9 v_8_10 v_8_14 (trivial) (hF.sub (L' := [(0, _), (3, _), (4, _)]) ⟨rfl, rfl, rfl, trivial⟩) (hS.perm (.swap _ _ _)))
   rintro a w ⟨v_8_0, v_8_4, v_8_9, v_8_10, v_8_14, -, hF, hS⟩
   (try dsimp only at hF); (try dsimp only at hS)
   refine hK7 _ _ ?_
   clear hK7
   refine reg hF hS (sq rfl (q_move rfl) <|
     sq rfl (q_addi rfl rfl (by omega)) <|
     sq rfl (q_assign rfl) <|
     sq_end) ?_
   clear hF hS; intro a w hF hS
   replace hS := hS.keep zQ (zQ.k.n)
   refine ⟨(v_8_14, ys.take k.toNat ++ [l.getD i.toNat 0] ++ ys.drop k.toNat, i + 1), ?_, ?_, hF.sub ⟨rfl, rfl, rfl, trivial⟩, ?_⟩
   ·(try dsimp only); omega
   ·refine ⟨by omega, by omega, by rw [show (i + 1).toNat = i.toNat + 1 by omega]; exact Gu.ins_perm hpm (by omega), Gu.ins_sorted hpo (by omega) hih hlo⟩
   ·exact hS.rowEq (by simp; omega) (by simp [List.map_take, List.map_drop, List.take_of_length_le])
 ·obtain rfl : i = l.length := by omega
  refine wp_exit ?_
  refine hK3 _ _ ?_
  clear hK3
  refine wp_seq_k ?_; intro K12 hK12
  refine reg hF hS (sq rfl (q_move rfl) <|
    sq rfl (q_assign rfl) <|
    sq_end) ?_
  clear hF hS; intro a w hF hS
  refine hK12 _ _ ?_
  clear hK12
  refine wp_ret ?_
  obtain ⟨zr, hzr, hS⟩ := St.freezeV (f := vi) (p := fun x => -9223372036854775808 ≤ x ∧ x ≤ 9223372036854775807) hS rfl (by first | omega | (simp; omega)) (hrg)
  exact fn_ret (rs := [.tmp 2]) rfl hF hS (vs := [_]) ⟨rfl, trivial⟩ (zs' := [zr]) (hs' := []) (List.singleton_sublist.2 (by simp)) zQ ⟨ys, by rw [Int.toNat_natCast, List.take_length] at hpm; exact hpm, hpo, _, hzr, rfl, rfl⟩
end Go.Proofs.Ytefjpigmgmbghaa
