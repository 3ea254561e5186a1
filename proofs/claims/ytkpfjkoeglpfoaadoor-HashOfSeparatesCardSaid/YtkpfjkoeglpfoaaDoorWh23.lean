/- A text of a proof over this seat: walks over the program's functions and the plain laws that they need. -/
import Derived.Test.YtkpfjkoeglpfoaaDoorWh22
import Derived.Test.YtkpfjkoeglpfoaaDoorSha7
import Derived.Test.YtkpfjkoeglpfoaaDoorFw18
set_option linter.all false
namespace Go.Proofs.YtkpfjkoeglpfoaaDoor
open Go.Fw
theorem ty48 : Tf Tryd.prog 48 (.array 2 5) 2 2 (.agg ([Value.int .u8 0, Value.int .u8 0]).toArray) := ⟨Tryd.underlying48, by kernel_rfl⟩

theorem take_step {α : Type} (d : α) {a b : List α} {i : Nat} (ha : i < a.length) (hb : i < b.length) (h : a.take i = b.take i) : a.take (i + 1) = b.take (i + 1) ↔ a.getD i d = b.getD i d := by
  rw [List.take_succ_eq_append_getElem ha, List.take_succ_eq_append_getElem hb, h, List.getD_eq_getElem?_getD, List.getD_eq_getElem?_getD, List.getElem?_eq_getElem ha, List.getElem?_eq_getElem hb]
  constructor
  · intro h1
    have := List.append_cancel_left h1
    injection this
  · intro h1
    have h2 : a[i] = b[i] := h1
    rw [h2]
theorem take_less {α : Type} {a b : List α} {i : Nat} (h : a.take (i + 1) = b.take (i + 1)) : a.take i = b.take i := by
  have := congrArg (List.take i) h
  rwa [List.take_take, List.take_take, Nat.min_eq_left (by omega)] at this
theorem sep_end {p : Prop} {a b : List (List UInt8)} {i : Int} {s : Bool} (h0 : 0 ≤ i) (hs : s = true ↔ p ∧ a.length = b.length ∧ a.take i.toNat = b.take i.toNat) (hc : ¬ i < a.length ∨ s = false) : s = true ↔ p ∧ a = b := by
  rcases hc with hc | rfl
  · rw [hs]
    constructor
    · rintro ⟨h1, h2, h3⟩
      rw [List.take_of_length_le (by omega), List.take_of_length_le (by omega)] at h3
      exact ⟨h1, h3⟩
    · rintro ⟨h1, rfl⟩
      exact ⟨h1, rfl, rfl⟩
  · constructor
    · intro h; cases h
    · rintro ⟨h1, rfl⟩
      exact hs.2 ⟨h1, rfl, rfl⟩
theorem bool_iff {p q : Prop} [Decidable p] {c : Bool} (h : c = true ↔ q) (hpq : p ↔ q) : (decide p == c) = true := by
  by_cases hp : p
  · rw [h.2 (hpq.1 hp)]; simp [hp]
  · have : c = false := by
      cases c with
      | true => exact absurd (hpq.2 (h.1 rfl)) hp
      | false => rfl
    rw [this]; simp [hp]
theorem clash_step {a b : List UInt8} {i : Int} {c : Bool} (h0 : 0 ≤ i) (ha : i < a.length) (hb : i < b.length) (h : c = true ↔ a.take i.toNat = b.take i.toNat) : (c && decide (a.getD i.toNat 0 = b.getD i.toNat 0)) = true ↔ a.take (i + 1).toNat = b.take (i + 1).toNat := by
  rw [show (i + 1).toNat = i.toNat + 1 by omega, Bool.and_eq_true, decide_eq_true_eq, h]
  constructor
  · rintro ⟨h1, h2⟩; exact (take_step 0 (by omega) (by omega) h1).2 h2
  · intro h1
    have h2 := take_less h1
    exact ⟨h2, (take_step 0 (by omega) (by omega) h2).1 h1⟩
theorem sep_step {p : Prop} {a b : List (List UInt8)} {i : Int} (h0 : 0 ≤ i) (ha : i < a.length) (h : p ∧ a.length = b.length ∧ a.take i.toNat = b.take i.toNat) : decide (a.getD i.toNat [] = b.getD i.toNat []) = true ↔ p ∧ a.length = b.length ∧ a.take (i + 1).toNat = b.take (i + 1).toNat := by
  obtain ⟨h1, h2, h3⟩ := h
  rw [show (i + 1).toNat = i.toNat + 1 by omega, decide_eq_true_eq, take_step [] (by omega) (by omega) h3]
  exact ⟨fun h => ⟨h1, h2, h⟩, fun h => h.2.2⟩
theorem list2 {tg : List UInt8} (h : tg.length = 2) : ∃ a b, tg = [a, b] := by
  match tg, h with
  | [a, b], _ => exact ⟨a, b, rfl⟩

attribute [local irreducible] Sha.sum Sha.mac Sha.ofD Sha.fin Sha.adds Sha.begin_ Sha.inp fewB

set_option maxHeartbeats 2000000 in
theorem law6_ct (tg : List UInt8) (htg : tg.length = 2) (v1 : Value) (xa : List (List UInt8)) (v2 : Value) (xb : List (List UInt8)) (w : World) (hb1 : Sl encS (ph w) v1 xa) (hb2 : Sl encS (ph w) v2 xb) {fz1 : Nat × Nat} {bt1 : TypeId} (hg1 : w.heap[1]? = some (.cells (Sha.kc.map vw).toArray bt1 fz1)) : Ct Tryd.prog 8 [.agg (tg.map vb).toArray, v1, v2] w (fun r _ _ => r = .bool true) := by
  refine fn_enter Tryd.func8 rfl Tryd.ntmps8 (Nat.le_of_ble_eq_true rfl) fun a hF hS => ?_
  obtain ⟨t0, t1, rfl⟩ := list2 htg
  have hal := hb1.1
  have hbl := hb2.1
  refine wp_seq_k ?_; intro K1 hK1
  refine regl ?_
  refine wpl_ef hF hS rfl (ef_boxA rfl) ?_
  clear hF hS; rintro _ _ _ a w ⟨b1, rfl, rfl, rfl⟩ hF hS
  refine wpl_sq hF hS (sq rfl (q_assign rfl) <|
      sq_end) ?_
  clear hF hS; intro a w hF hS
  refine wpList_nil ?_
  refine hK1 _ _ ?_
  clear hK1
  refine wp_seq_k ?_; intro K2 hK2
  refine reg hF hS (sq rfl (q_call fn10 rfl (fun w hS => sanity_ct w (hS.ext _ _ hg1)) (fun _ _ _ h => h)) <|
      sq rfl (q_assign rfl) <|
      sq_end) ?_
  clear hF hS; intro a w hF hS
  refine hK2 _ _ ?_
  clear hK2
  refine wp_seq_k ?_; intro K3 hK3
  refine wp_seq_k ?_; intro K4 hK4
  refine regl ?_
  refine wpl_sq hF hS (sq rfl (q_move rfl) <|
      sq rfl (q_call fn13 rfl (fun w hS => few_ct _ _ w (Sl.mono (hS.le zin0) hb1)) (fun _ _ _ h => h)) <|
      sq rfl (q_not rfl) <|
      sq rfl (q_move rfl) <|
      sq_end) ?_
  clear hF hS; intro a w hF hS
  refine wpl_or 3 22 3 hF hS rfl rfl rfl rfl rfl (fun hg => have hg := hg; sq_go 22 rfl rfl rfl (q_move rfl) <|
      sq_go 22 rfl rfl rfl (q_call fn13 rfl (fun w hS => few_ct _ _ w (Sl.mono (hS.le zin0) hb2)) (fun _ _ _ h => h)) <|
      sq_go 22 rfl rfl rfl (q_not rfl) <|
      sq_end) rfl rfl ?_
  clear hF hS; intro a w hF hS
  refine wpList_nil ?_
  refine hK4 _ _ ?_
  clear hK4
  refine wp_if hF rfl (fun hc1 => ?_) (fun hc1 => ?_)
  · (try simp only [Bool.or_eq_true, Bool.and_eq_true, Bool.or_eq_false_iff, Bool.and_eq_false_iff, decide_eq_true_eq, decide_eq_false_iff_not, Bool.not_eq_true', Bool.not_eq_false'] at hc1)
    refine wp_seq_k ?_; intro K5 hK5
    refine reg hF hS (sq rfl (q_move rfl) <|
        sq rfl (q_assign rfl) <|
        sq_end) ?_
    clear hF hS; intro a w hF hS
    refine hK5 _ _ ?_
    clear hK5
    refine wp_ret ?_
    exact fn_ret (rs := [.tmp 6]) rfl hF hS (vs := [_]) ⟨rfl, trivial⟩ (List.nil_sublist _) (List.nil_sublist _) (rfl)
  · (try simp only [Bool.or_eq_true, Bool.and_eq_true, Bool.or_eq_false_iff, Bool.and_eq_false_iff, decide_eq_true_eq, decide_eq_false_iff_not, Bool.not_eq_true', Bool.not_eq_false'] at hc1)
    have hfa := few_ok hc1.1
    have hfb := few_ok hc1.2
    refine wp_skip ?_
    refine hK3 _ _ ?_
    clear hK3
    refine wp_seq_k ?_; intro K6 hK6
    refine regl ?_
    refine wpl_sq hF hS (sq rfl (q_idx_arr ty48 ty5 rfl rfl (by omega)) <|
        sq rfl (q_ld_blk1 ty5 0 rfl rfl rfl rfl) <|
        sq rfl (q_idx_arr ty48 ty5 rfl rfl (by omega)) <|
        sq rfl (q_ld_blk1 ty5 0 rfl rfl rfl rfl) <|
        sq rfl (q_eqb rfl rfl) <|
        sq rfl (q_move rfl) <|
        sq_end) ?_
    clear hF hS; intro a w hF hS
    refine wpl_and 5 33 5 hF hS rfl rfl rfl rfl rfl (fun hg => have hg := (by first | exact of_decide_eq_true hg | exact hg); sq_go 33 rfl rfl rfl (q_move rfl) <|
        sq_go 33 rfl rfl rfl (q_len_sl ty27 hb1 rfl) <|
        sq_go 33 rfl rfl rfl (q_move rfl) <|
        sq_go 33 rfl rfl rfl (q_len_sl ty27 hb2 rfl) <|
        sq_go 33 rfl rfl rfl (q_eqi rfl rfl) <|
        sq_end) rfl rfl ?_
    clear hF hS; intro a w hF hS
    refine wpl_sq hF hS (sq rfl (q_assign rfl) <|
        sq_end) ?_
    clear hF hS; intro a w hF hS
    refine wpList_nil ?_
    refine hK6 _ _ ?_
    clear hK6
    refine wp_seq_k ?_; intro K7 hK7
    refine wp_seq_k ?_; intro K8 hK8
    refine reg hF hS (sq rfl (q_assign rfl) <|
        sq_end) ?_
    clear hF hS; intro a w hF hS
    refine hK8 _ _ ?_
    clear hK8
    refine wp_block ?_
    obtain ⟨hs0, hhs0, hS⟩ : ∃ h, h = _ ∧ St _ _ h _ := ⟨_, rfl, hS⟩
    refine wp_loopx (γ := Int × Bool) (0, decide (t0 = t1) && decide ((xa.length : Int) = xb.length)) (fun (gg : Int × Bool) => match gg with | (i, sm) => [(9, vi i), (8, vt sm)]) [(1, _), (2, _), (3, _), (7, _)] (fun (gg : Int × Bool) => match gg with | (i, sm) => hs0) (fun (gg : Int × Bool) => match gg with | (i, sm) => 0 ≤ i ∧ i ≤ xa.length ∧ (sm = true ↔ t0 = t1 ∧ xa.length = xb.length ∧ xa.take i.toNat = xb.take i.toNat)) (fun (gg : Int × Bool) => match gg with | (i, sm) => (xa.length - i).toNat) (hF.sub ⟨rfl, rfl, rfl, rfl, rfl, rfl, trivial⟩) (by subst hhs0; exact hS) (by exact ⟨Int.le_refl _, by omega, by simp; omega⟩) ?_
    clear hF hS; rintro ⟨i, sm⟩ a w hfact hF hS
    subst hhs0; (try dsimp only at hfact); (try dsimp only at hF); (try dsimp only at hS)
    obtain ⟨hi0, hi1, hsame⟩ := hfact
    replace hS : St _ [] [_] _ := hS
    refine wp_seq_k ?_; intro K9 hK9
    refine wp_seq_k ?_; intro K10 hK10
    refine regl ?_
    refine wpl_sq hF hS (sq rfl (q_move rfl) <|
        sq rfl (q_move rfl) <|
        sq rfl (q_len_sl ty27 hb1 rfl) <|
        sq rfl (q_lti rfl rfl) <|
        sq rfl (q_move rfl) <|
        sq_end) ?_
    clear hF hS; intro a w hF hS
    refine wpl_and 4 44 1 hF hS rfl rfl rfl rfl rfl (fun hg => have hg := (by first | exact of_decide_eq_true hg | exact hg); sq_go 44 rfl rfl rfl (q_move rfl) <|
        sq_end) rfl rfl ?_
    clear hF hS; intro a w hF hS
    refine wpList_nil ?_
    refine hK10 _ _ ?_
    clear hK10
    refine wp_if hF rfl (fun hc2 => ?_) (fun hc2 => ?_)
    · (try simp only [Bool.or_eq_true, Bool.and_eq_true, Bool.or_eq_false_iff, Bool.and_eq_false_iff, decide_eq_true_eq, decide_eq_false_iff_not, Bool.not_eq_true', Bool.not_eq_false'] at hc2)
      have hs1 := hsame.1 hc2.2
      have hlab := hs1.2.1
      have hi3 := hc2.1
      refine wp_skip ?_
      refine hK9 _ _ ?_
      clear hK9
      refine wp_seq_k ?_; intro K11 hK11
      refine wp_block ?_
      refine regd mixed (by kernel_rfl) hF hS (sq rfl (q_move rfl) <|
          sq rfl (q_move rfl) <|
          sq rfl (q_idx_sl ty27 ty9 hb1 rfl rfl (by omega)) <|
          sq rfl (q_ld_S ty9 hb1 zin0 rfl rfl (by omega)) <|
          sq rfl (q_move rfl) <|
          sq rfl (q_move rfl) <|
          sq rfl (q_idx_sl ty27 ty9 hb2 rfl rfl (by omega)) <|
          sq rfl (q_ld_S ty9 hb2 zin0 rfl rfl (by omega)) <|
          sq rfl (q_eqs rfl rfl) <|
          sq rfl (q_assign rfl) <|
          sq_end) ?_
      clear hF hS; intro a w hF hS
      refine hK11 _ _ ?_
      clear hK11
      refine reg hF hS (sq rfl (q_move rfl) <|
          sq rfl (q_addi rfl rfl (by omega)) <|
          sq rfl (q_assign rfl) <|
          sq_end) ?_
      clear hF hS; intro a w hF hS
      refine ⟨(i + 1, decide (xa.getD i.toNat [] = xb.getD i.toNat [])), ?_, ?_, hF.sub ⟨rfl, rfl, rfl, rfl, rfl, rfl, trivial⟩, ?_⟩
      · (try dsimp only); omega
      · exact ⟨by omega, by omega, sep_step hi0 hi3 hs1⟩
      · exact hS
    · (try simp only [Bool.or_eq_true, Bool.and_eq_true, Bool.or_eq_false_iff, Bool.and_eq_false_iff, decide_eq_true_eq, decide_eq_false_iff_not, Bool.not_eq_true', Bool.not_eq_false'] at hc2)
      have hfin := sep_end hi0 hsame hc2
      have hia := Sha.inp_len (t0.toNat : Int) xa (fun p hp => by have := hfa.2 p hp; omega)
      have hib := Sha.inp_len (t1.toNat : Int) xb (fun p hp => by have := hfb.2 p hp; omega)
      have hla := hfa.1
      have hlb := hfb.1
      refine wp_exit ?_
      refine hK7 _ _ ?_
      clear hK7
      refine wp_seq_k ?_; intro K12 hK12
      refine regl ?_
      refine wpl_sq hF hS (sq rfl (q_idx_arr ty48 ty5 rfl rfl (by omega)) <|
          sq rfl (q_ld_blk1 ty5 0 rfl rfl rfl rfl) <|
          sq rfl (q_cv_bi ty5 ty3 rfl) <|
          sq rfl (q_move rfl) <|
          sq_end) ?_
      clear hF hS; intro a w hF hS
      refine wpl_ef hF hS rfl (ef_call fn23 rfl (fun w hS => rinput_ct _ _ _ (fun p hp => by have := hfa.2 p hp; omega) (by have := hfa.1; omega) w (Sl.mono (hS.le zin0) hb1))) ?_
      clear hF hS; rintro v2 _ _ a w ⟨_, _, rfl, rfl, ⟨z3, hz4, rfl, rfl⟩⟩ hF hS
      replace hS : St _ [_] [_] _ := hS
      refine wpl_sq hF hS (sq rfl (q_assign rfl) <|
          sq_end) ?_
      clear hF hS; intro a w hF hS
      refine wpList_nil ?_
      refine hK12 _ _ ?_
      clear hK12
      refine wp_seq_k ?_; intro K13 hK13
      refine regl ?_
      refine wpl_sq hF hS (sq rfl (q_idx_arr ty48 ty5 rfl rfl (by omega)) <|
          sq rfl (q_ld_blk1 ty5 0 rfl rfl rfl rfl) <|
          sq rfl (q_cv_bi ty5 ty3 rfl) <|
          sq rfl (q_move rfl) <|
          sq_end) ?_
      clear hF hS; intro a w hF hS
      refine wpl_ef hF hS rfl (ef_call fn23 rfl (fun w hS => rinput_ct _ _ _ (fun p hp => by have := hfb.2 p hp; omega) (by have := hfb.1; omega) w (Sl.mono (hS.le zin0) hb2))) ?_
      clear hF hS; rintro v5 _ _ a w ⟨_, _, rfl, rfl, ⟨z6, hz7, rfl, rfl⟩⟩ hF hS
      replace hS : St _ [_, _] [_] _ := hS
      refine wpl_sq hF hS (sq rfl (q_assign rfl) <|
          sq_end) ?_
      clear hF hS; intro a w hF hS
      refine wpList_nil ?_
      refine hK13 _ _ ?_
      clear hK13
      refine wp_seq_k ?_; intro K14 hK14
      refine wp_seq_k ?_; intro K15 hK15
      refine reg hF hS (sq rfl (q_move rfl) <|
          sq_end) ?_
      clear hF hS; intro a w hF hS
      refine hK15 _ _ ?_
      clear hK15
      refine wp_if hF rfl (fun hc3 => ?_) (fun hc3 => ?_)
      · refine wp_seq_k ?_; intro K16 hK16
        refine reg hF hS (sq rfl (q_move rfl) <|
            sq rfl (q_move rfl) <|
            sq_go 70 rfl rfl rfl (q_move rfl) <|
            sq_go 70 rfl rfl rfl (q_b2s_sl ty22 ty9 ty5 hz4 (.inr (by simp)) rfl) <|
            sq_go 70 rfl rfl rfl (q_move rfl) <|
            sq_go 70 rfl rfl rfl (q_b2s_sl ty22 ty9 ty5 hz7 (.inr (by simp)) rfl) <|
            sq_go 70 rfl rfl rfl (q_dt (q_eqs rfl rfl) (by obtain ⟨h1, h2⟩ := hfin.1 hc3; rw [h1, h2])) <|
            sq rfl (q_pick_t rfl rfl) <|
            sq rfl (q_assign rfl) <|
            sq_end) ?_
        clear hF hS; intro a w hF hS
        refine hK16 _ _ ?_
        clear hK16
        refine wp_ret ?_
        exact fn_ret (rs := [.tmp 6]) rfl hF hS (vs := [_]) ⟨rfl, trivial⟩ (List.nil_sublist _) (List.nil_sublist _) (rfl)
      · have hda := Sha.ofD_len (t0.toNat : Int) xa
        have hdb := Sha.ofD_len (t1.toNat : Int) xb
        have hsa := Sha.sum_len (Sha.inp (t0.toNat : Int) xa)
        have hsb := Sha.sum_len (Sha.inp (t1.toNat : Int) xb)
        refine wp_skip ?_
        refine hK14 _ _ ?_
        clear hK14
        refine wp_seq_k ?_; intro K17 hK17
        refine regl ?_
        refine wpl_sq hF hS (sq rfl (q_idx_arr ty48 ty5 rfl rfl (by omega)) <|
            sq rfl (q_ld_blk1 ty5 0 rfl rfl rfl rfl) <|
            sq rfl (q_cv_bi ty5 ty3 rfl) <|
            sq rfl (q_move rfl) <|
            sq rfl (q_call fn21 rfl (fun w hS => of_ct _ _ _ (fun p hp => by have := hfa.2 p hp; omega) (by have := hfa.1; omega) w (Sl.mono (hS.le zin0) hb1) (hS.ext _ _ hg1)) (fun _ _ _ h => h)) <|
            sq_end) ?_
        clear hF hS; intro a w hF hS
        refine wpl_ef hF hS rfl (ef_allocA ty44) ?_
        clear hF hS; rintro _ _ _ a w ⟨b8, rfl, rfl, rfl⟩ hF hS
        rw [show List.replicate 16 (Value.int .u8 0) = (List.replicate 16 (0 : UInt8)).map vb from by rw [List.map_replicate]; rfl] at hS
        refine wpl_ef hF hS rfl (ef_storeW ty44 0 rfl rfl rfl rfl (by first | omega | (simp; omega) | (simp [*]; done) | decide | (simp [*]; omega)) (by first | ((repeat first | ((with_reducible refine oc_map ?_); intro _; rfl) | (with_reducible refine oc_app ?_ ?_) | ((with_reducible refine oc_cons ?_ ?_); rfl) | (with_reducible exact oc_nil) | ((with_reducible refine oc_rep ?_); rfl)); done) | (simp [Value.oneCell']; done) | (simp; decide)) (by first | omega | (simp; omega) | (simp [*]; done) | decide | (simp [*]; omega))) ?_
        clear hF hS; rintro _ _ _ a w ⟨rfl, rfl, rfl⟩ hF hS
        replace hS : St _ [_, _] [_, _] _ := hS
        refine wpList_nil ?_
        refine hK17 _ _ ?_
        clear hK17
        refine wp_seq_k ?_; intro K18 hK18
        refine regl ?_
        refine wpl_sq hF hS (sq rfl (q_idx_arr ty48 ty5 rfl rfl (by omega)) <|
            sq rfl (q_ld_blk1 ty5 1 rfl rfl rfl rfl) <|
            sq rfl (q_cv_bi ty5 ty3 rfl) <|
            sq rfl (q_move rfl) <|
            sq rfl (q_call fn21 rfl (fun w hS => of_ct _ _ _ (fun p hp => by have := hfb.2 p hp; omega) (by have := hfb.1; omega) w (Sl.mono (hS.le zin0) hb2) (hS.ext _ _ hg1)) (fun _ _ _ h => h)) <|
            sq_end) ?_
        clear hF hS; intro a w hF hS
        refine wpl_ef hF hS rfl (ef_allocA ty44) ?_
        clear hF hS; rintro _ _ _ a w ⟨b9, rfl, rfl, rfl⟩ hF hS
        rw [show List.replicate 16 (Value.int .u8 0) = (List.replicate 16 (0 : UInt8)).map vb from by rw [List.map_replicate]; rfl] at hS
        refine wpl_ef hF hS rfl (ef_storeW ty44 0 rfl rfl rfl rfl (by first | omega | (simp; omega) | (simp [*]; done) | decide | (simp [*]; omega)) (by first | ((repeat first | ((with_reducible refine oc_map ?_); intro _; rfl) | (with_reducible refine oc_app ?_ ?_) | ((with_reducible refine oc_cons ?_ ?_); rfl) | (with_reducible exact oc_nil) | ((with_reducible refine oc_rep ?_); rfl)); done) | (simp [Value.oneCell']; done) | (simp; decide)) (by first | omega | (simp; omega) | (simp [*]; done) | decide | (simp [*]; omega))) ?_
        clear hF hS; rintro _ _ _ a w ⟨rfl, rfl, rfl⟩ hF hS
        replace hS : St _ [_, _] [_, _, _] _ := hS
        refine wpList_nil ?_
        refine hK18 _ _ ?_
        clear hK18
        refine wp_seq_k ?_; intro K19 hK19
        refine regl ?_
        refine wpl_sq hF hS (sq rfl (q_move rfl) <|
            sq rfl (q_call fn11 rfl (fun w hS => sum_ct _ _ (by first | assumption | omega) w (Sl.mono (hS.le (.inr (by simp))) hz4) (hS.ext _ _ hg1)) (fun _ _ _ h => h)) <|
            sq_end) ?_
        clear hF hS; intro a w hF hS
        refine wpl_ef hF hS rfl (ef_allocA ty24) ?_
        clear hF hS; rintro _ _ _ a w ⟨b10, rfl, rfl, rfl⟩ hF hS
        rw [show List.replicate 32 (Value.int .u8 0) = (List.replicate 32 (0 : UInt8)).map vb from by rw [List.map_replicate]; rfl] at hS
        refine wpl_ef hF hS rfl (ef_storeW ty24 0 rfl rfl rfl rfl (by first | omega | (simp; omega) | (simp [*]; done) | decide | (simp [*]; omega)) (by first | ((repeat first | ((with_reducible refine oc_map ?_); intro _; rfl) | (with_reducible refine oc_app ?_ ?_) | ((with_reducible refine oc_cons ?_ ?_); rfl) | (with_reducible exact oc_nil) | ((with_reducible refine oc_rep ?_); rfl)); done) | (simp [Value.oneCell']; done) | (simp; decide)) (by first | omega | (simp; omega) | (simp [*]; done) | decide | (simp [*]; omega))) ?_
        clear hF hS; rintro _ _ _ a w ⟨rfl, rfl, rfl⟩ hF hS
        replace hS : St _ [_, _] [_, _, _, _] _ := hS
        refine wpList_nil ?_
        refine hK19 _ _ ?_
        clear hK19
        refine wp_seq_k ?_; intro K20 hK20
        refine regl ?_
        refine wpl_sq hF hS (sq rfl (q_move rfl) <|
            sq rfl (q_call fn11 rfl (fun w hS => sum_ct _ _ (by first | assumption | omega) w (Sl.mono (hS.le (.inr (by simp))) hz7) (hS.ext _ _ hg1)) (fun _ _ _ h => h)) <|
            sq_end) ?_
        clear hF hS; intro a w hF hS
        refine wpl_ef hF hS rfl (ef_allocA ty24) ?_
        clear hF hS; rintro _ _ _ a w ⟨b11, rfl, rfl, rfl⟩ hF hS
        rw [show List.replicate 32 (Value.int .u8 0) = (List.replicate 32 (0 : UInt8)).map vb from by rw [List.map_replicate]; rfl] at hS
        refine wpl_ef hF hS rfl (ef_storeW ty24 0 rfl rfl rfl rfl (by first | omega | (simp; omega) | (simp [*]; done) | decide | (simp [*]; omega)) (by first | ((repeat first | ((with_reducible refine oc_map ?_); intro _; rfl) | (with_reducible refine oc_app ?_ ?_) | ((with_reducible refine oc_cons ?_ ?_); rfl) | (with_reducible exact oc_nil) | ((with_reducible refine oc_rep ?_); rfl)); done) | (simp [Value.oneCell']; done) | (simp; decide)) (by first | omega | (simp; omega) | (simp [*]; done) | decide | (simp [*]; omega))) ?_
        clear hF hS; rintro _ _ _ a w ⟨rfl, rfl, rfl⟩ hF hS
        replace hS : St _ [_, _] [_, _, _, _, _] _ := hS
        refine wpList_nil ?_
        refine hK20 _ _ ?_
        clear hK20
        refine wp_seq_k ?_; intro K21 hK21
        refine reg hF hS (sq rfl (q_assign rfl) <|
            sq_end) ?_
        clear hF hS; intro a w hF hS
        refine hK21 _ _ ?_
        clear hK21
        refine wp_seq_k ?_; intro K22 hK22
        refine wp_seq_k ?_; intro K23 hK23
        refine reg hF hS (sq rfl (q_assign rfl) <|
            sq_end) ?_
        clear hF hS; intro a w hF hS
        refine hK23 _ _ ?_
        clear hK23
        refine wp_block ?_
        obtain ⟨hs0, hhs0, hS⟩ : ∃ h, h = _ ∧ St _ _ h _ := ⟨_, rfl, hS⟩
        refine wp_loopx (γ := Int × Bool) (0, true) (fun (gg : Int × Bool) => match gg with | (j, cl) => [(17, vi j), (16, vt cl)]) [(7, _), (10, _), (11, _), (12, _), (13, _), (14, _), (15, _)] (fun (gg : Int × Bool) => match gg with | (j, cl) => hs0) (fun (gg : Int × Bool) => match gg with | (j, cl) => 0 ≤ j ∧ j ≤ 16 ∧ (cl = true ↔ (Sha.sum (Sha.inp (t0.toNat : Int) xa)).take j.toNat = (Sha.sum (Sha.inp (t1.toNat : Int) xb)).take j.toNat)) (fun (gg : Int × Bool) => match gg with | (j, cl) => (16 - j).toNat) (hF.sub ⟨rfl, rfl, rfl, rfl, rfl, rfl, rfl, rfl, rfl, trivial⟩) (by subst hhs0; exact hS) (by simp) ?_
        clear hF hS; rintro ⟨j, cl⟩ a w hfact hF hS
        subst hhs0; (try dsimp only at hfact); (try dsimp only at hF); (try dsimp only at hS)
        obtain ⟨hj0, hj1, hcl⟩ := hfact
        replace hS : St _ [_, _] [_, _, _, _, _] _ := hS
        refine wp_seq_k ?_; intro K24 hK24
        refine wp_seq_k ?_; intro K25 hK25
        refine reg hF hS (sq rfl (q_move rfl) <|
            sq rfl (q_lti rfl rfl) <|
            sq_end) ?_
        clear hF hS; intro a w hF hS
        refine hK25 _ _ ?_
        clear hK25
        refine wp_ifd hF rfl (fun hc4 => ?_) (fun hc4 => ?_)
        · refine wp_skip ?_
          refine hK24 _ _ ?_
          clear hK24
          refine wp_seq_k ?_; intro K26 hK26
          refine wp_block ?_
          refine regq mixed (by kernel_rfl) hS ?_
          refine wpq_seg hF (sq rfl (q_move rfl) <|
              sq rfl (q_move rfl) <|
              sq_end) ?_
          clear hF; intro a hF
          refine wpq_and 1 96 7 hF rfl rfl rfl rfl rfl (fun hg => have hg := hg; sq_go 96 rfl rfl rfl (q_move rfl) <|
              sq_go 96 rfl rfl rfl (q_idx_arr0 ty24 ty5 rfl rfl (by omega)) <|
              sq_go 96 rfl rfl rfl (q_ld_blkM ty5 1 0 rfl rfl (by first | omega | (simp; omega) | (simp [*]; done) | decide | (simp [*]; omega)) rfl) <|
              sq_go 96 rfl rfl rfl (q_move rfl) <|
              sq_go 96 rfl rfl rfl (q_idx_arr0 ty24 ty5 rfl rfl (by omega)) <|
              sq_go 96 rfl rfl rfl (q_ld_blkM ty5 0 0 rfl rfl (by first | omega | (simp; omega) | (simp [*]; done) | decide | (simp [*]; omega)) rfl) <|
              sq_go 96 rfl rfl rfl (q_eqb rfl rfl) <|
              sq_end) rfl rfl ?_
          clear hF; intro a hF
          refine wpq_seg hF (sq rfl (q_assign rfl) <|
              sq_end) ?_
          clear hF; intro a hF
          refine wpq_nil ?_
          clear hS; intro w hS
          refine hK26 _ _ ?_
          clear hK26
          refine reg hF hS (sq rfl (q_move rfl) <|
              sq rfl (q_addi rfl rfl (by omega)) <|
              sq rfl (q_assign rfl) <|
              sq_end) ?_
          clear hF hS; intro a w hF hS
          refine ⟨(j + 1, cl && decide ((Sha.sum (Sha.inp (t0.toNat : Int) xa)).getD j.toNat 0 = (Sha.sum (Sha.inp (t1.toNat : Int) xb)).getD j.toNat 0)), ?_, ?_, hF.sub ⟨rfl, rfl, rfl, rfl, rfl, rfl, rfl, rfl, rfl, trivial⟩, ?_⟩
          · (try dsimp only); omega
          · exact ⟨by omega, by omega, clash_step hj0 (by omega) (by omega) hcl⟩
          · exact hS
        · obtain rfl : j = 16 := by omega
          refine wp_exit ?_
          refine hK22 _ _ ?_
          clear hK22
          refine wp_seq_k ?_; intro K27 hK27
          refine reg hF hS (sq rfl (q_move rfl) <|
              sq rfl (q_move rfl) <|
              sq_go 106 rfl rfl rfl (q_move rfl) <|
              sq_go 106 rfl rfl rfl (q_b2s_sl ty22 ty9 ty5 hz4 (.inr (by simp)) rfl) <|
              sq_go 106 rfl rfl rfl (q_move rfl) <|
              sq_go 106 rfl rfl rfl (q_b2s_sl ty22 ty9 ty5 hz7 (.inr (by simp)) rfl) <|
              sq_go 106 rfl rfl rfl (q_nt (q_nes rfl rfl) (fun h => by have h2 := hfin.2 (Sha.inp_inj t0 t1 xa xb hfa.2 hfb.2 h); rw [h2] at hc3; cases hc3)) <|
              sq rfl (q_pick_t rfl rfl) <|
              sq rfl (q_move rfl) <|
              sq_go 113 rfl rfl rfl (q_ld_blkW ty44 3 rfl rfl (by first | omega | (simp; omega) | (simp [*]; done) | decide | (simp [*]; omega)) rfl) <|
              sq_go 113 rfl rfl rfl (q_ld_blkW ty44 2 rfl rfl (by first | omega | (simp; omega) | (simp [*]; done) | decide | (simp [*]; omega)) rfl) <|
              sq_go 113 rfl rfl rfl (q_eqAB ty44 ty5 (by kernel_rfl) rfl rfl (by first | omega | (simp; omega) | (simp [*]; done) | decide | (simp [*]; omega)) (by first | omega | (simp; omega) | (simp [*]; done) | decide | (simp [*]; omega))) <|
              sq_go 113 rfl rfl rfl (q_move rfl) <|
              sq_go 113 rfl rfl rfl (q_bt (q_eqt ty4 rfl rfl) (bool_iff hcl (by rw [Sha.ofD_ref, Sha.ofD_ref]; exact Iff.rfl))) <|
              sq rfl (q_pick_t rfl rfl) <|
              sq rfl (q_assign rfl) <|
              sq_end) ?_
          clear hF hS; intro a w hF hS
          refine hK27 _ _ ?_
          clear hK27
          refine wp_ret ?_
          exact fn_ret (rs := [.tmp 6]) rfl hF hS (vs := [_]) ⟨rfl, trivial⟩ (List.nil_sublist _) (List.nil_sublist _) (rfl)
end Go.Proofs.YtkpfjkoeglpfoaaDoor
