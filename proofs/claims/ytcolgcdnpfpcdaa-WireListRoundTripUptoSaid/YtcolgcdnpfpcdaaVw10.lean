/- A text of a proof over this seat: walks over the program's functions and the plain laws that they need. -/
import Derived.Test.YtcolgcdnpfpcdaaVw9
import Derived.Test.YtcolgcdnpfpcdaaWi9
import Derived.Test.YtcolgcdnpfpcdaaVw6
import Derived.Test.YtcolgcdnpfpcdaaVw7
set_option linter.all false
namespace Go.Proofs.Ytcolgcdnpfpcdaa
open Go.Fw
theorem fn11 : FnOk Try.prog 11 := ⟨_, Try.func11, rfl, by kernel_rfl⟩
theorem fn19 : FnOk Try.prog 19 := ⟨_, Try.func19, rfl, by kernel_rfl⟩
theorem fn21 : FnOk Try.prog 21 := ⟨_, Try.func21, rfl, by kernel_rfl⟩
theorem fn23 : FnOk Try.prog 23 := ⟨_, Try.func23, rfl, by kernel_rfl⟩

theorem rg_use9 {n : Int} (h : Wi.Rg n) : -9223372036854775808 ≤ n ∧ n ≤ 9223372036854775807 := h
theorem flat_mem {p : List UInt8} {ps : List (List UInt8)} (h : p ∈ ps) : p.length ≤ ps.flatten.length := by
  induction ps with
  | nil => cases h
  | cons x xs ih =>
    rw [List.flatten_cons, List.length_append]
    rcases List.mem_cons.1 h with rfl | h
    · omega
    · have := ih h; omega
theorem few_use {ps : List (List UInt8)} (h : fewAll ps = true) : ps.length + ps.flatten.length ≤ 2000 ∧ ∀ p ∈ ps, p.length ≤ 2000 := by
  unfold fewAll fewN at h
  rw [List.take_length] at h
  have h := of_decide_eq_true h
  exact ⟨h, fun p hp => by have := flat_mem hp; omega⟩

attribute [local irreducible] Wi.int Wi.bytes Wi.ints Wi.strs Wi.dgs Ls.encT Wi.getInt Wi.valBE Wi.vj Wi.cnt Wi.wcnt Wi.getBytes Wi.run Wi.getList Wi.getDigs Wi.dgL Wi.Rg fewAll fewN

set_option maxHeartbeats 2000000 in
theorem law8_ct (n : Int) (hn : Wi.Rg n) (s : List UInt8) (hs : s.length ≤ 140737488355328) (v2 : Value) (l : List Int) (v3 : Value) (x : List (List UInt8)) (hx : ∀ i, fewN x i < 4611686018427387904) (v4 : Value) (d : List (List UInt8)) (w : World) (hl : Sl encI (ph w) v2 l) (hxs : Sl encS (ph w) v3 x) (hd : Sl (encA 16) (ph w) v4 d) : Ct Try.prog 3 [vi n, vs s, v2, v3, v4] w (fun r _ _ => r = .bool true) := by
  refine fn_enter Try.func3 rfl Try.ntmps3 (Nat.le_of_ble_eq_true rfl) fun a hF hS => ?_
  have hnr := rg_use9 hn
  have hll := hl.1
  have hxl := hxs.1
  have hdl := hd.1
  have h16 : ∀ y ∈ d, y.length = 16 := fun y hy => by obtain ⟨i, hi, rfl⟩ := List.mem_iff_getElem.1 hy; exact (hd.rep (i := i) (x := d[i]) (by simp [hi])).1
  refine wp_seq_k ?_; intro K1 hK1
  refine reg hF hS (sq rfl (q_assign rfl) <|
      sq_end) ?_
  clear hF hS; intro a w hF hS
  refine hK1 _ _ ?_
  clear hK1
  refine wp_seq_k ?_; intro K2 hK2
  refine wp_seq_k ?_; intro K3 hK3
  refine regl ?_
  refine wpl_sq hF hS (sq rfl (q_move rfl) <|
      sq rfl (q_len_s ty9 rfl) <|
      sq rfl (q_move rfl) <|
      sq rfl (q_len_sl ty22 hl rfl) <|
      sq rfl (q_addi rfl rfl (by omega)) <|
      sq rfl (q_move rfl) <|
      sq rfl (q_len_sl ty24 hd rfl) <|
      sq rfl (q_addi rfl rfl (by omega)) <|
      sq rfl (q_gti rfl rfl) <|
      sq rfl (q_move rfl) <|
      sq_end) ?_
  clear hF hS; intro a w hF hS
  refine wpl_or 9 20 3 hF hS rfl rfl rfl rfl rfl (fun hg => have hg := (by first | exact of_decide_eq_false hg | exact hg); sq_go 20 rfl rfl rfl (q_move rfl) <|
      sq_go 20 rfl rfl rfl (q_call fn11 rfl (fun w hS => few_ct _ _ (by first | with_reducible assumption | omega) w (Sl.mono (hS.le zin0) hxs)) (fun _ _ _ h => h)) <|
      sq_go 20 rfl rfl rfl (q_not rfl) <|
      sq_end) rfl rfl ?_
  clear hF hS; intro a w hF hS
  refine wpList_nil ?_
  refine hK3 _ _ ?_
  clear hK3
  refine wp_if hF rfl (fun hc1 => ?_) (fun hc1 => ?_)
  · (try simp only [Bool.or_eq_true, Bool.and_eq_true, Bool.or_eq_false_iff, Bool.and_eq_false_iff, decide_eq_true_eq, decide_eq_false_iff_not, Bool.not_eq_true', Bool.not_eq_false'] at hc1)
    refine wp_seq_k ?_; intro K4 hK4
    refine reg hF hS (sq rfl (q_call fn12 rfl (fun w hS => sanity_ct w ) (fun _ _ _ h => h)) <|
        sq rfl (q_assign rfl) <|
        sq_end) ?_
    clear hF hS; intro a w hF hS
    refine hK4 _ _ ?_
    clear hK4
    refine wp_ret ?_
    exact fn_ret (rs := [.tmp 10]) rfl hF hS (vs := [_]) ⟨rfl, trivial⟩ (List.nil_sublist _) (List.nil_sublist _) (rfl)
  · (try simp only [Bool.or_eq_true, Bool.and_eq_true, Bool.or_eq_false_iff, Bool.and_eq_false_iff, decide_eq_true_eq, decide_eq_false_iff_not, Bool.not_eq_true', Bool.not_eq_false'] at hc1)
    have hfu := few_use (by simp at hc1; exact hc1.2)
    have hsz : s.length + l.length + d.length ≤ 2000 := by simp at hc1; omega
    have hbs := Wi.bytes_len s
    have hil := Wi.ints_len2 l
    have hie := Wi.int_len9 n
    have hsl := Wi.strs_len9 x hfu.2
    have hss := Nat.mul_le_mul (show x.length ≤ 2000 by omega) (Nat.le_refl (2000 + 9))
    have hdg := Wi.dgs_len9 d h16
    refine wp_skip ?_
    refine hK2 _ _ ?_
    clear hK2
    refine wp_seq_k ?_; intro K5 hK5
    refine regl ?_
    refine wpl_sq hF hS (sq rfl (q_call fn12 rfl (fun w hS => sanity_ct w ) (fun _ _ _ h => h)) <|
        sq rfl (q_move rfl) <|
        sq_go 27 rfl rfl rfl (q_move rfl) <|
        sq_end) ?_
    clear hF hS; intro a w hF hS
    refine wpl_efg hF hS (wanted_go 27 rfl rfl) rfl (ef_call fn14 rfl (fun w hS => wint_ct _ w )) ?_
    clear hF hS; rintro v1 _ _ a w ⟨_, _, rfl, rfl, rfl, rfl⟩ hF hS
    replace hS : St _ [] [_] _ := hS
    refine wpl_sq hF hS (sq_go 27 rfl rfl rfl (q_move rfl) <|
        sq_end) ?_
    clear hF hS; intro a w hF hS
    refine wpl_efg hF hS (wanted_go 27 rfl rfl) rfl (ef_call fn15 rfl (fun w hS => rint_ct _ (by omega) w )) ?_
    clear hF hS; rintro v3 _ _ a w ⟨_, _, rfl, rfl, rfl, rfl⟩ hF hS
    replace hS : St _ [] [_, _] _ := hS
    refine wpl_sq hF hS (sq_go 27 rfl rfl rfl (q_dt (q_call fn13 rfl (fun w hS => same_ct _ _ _ _ w (own_slV (hS.own _ (List.mem_of_getElem? (i := 1) rfl)).1 (by simp) (by first | rfl | (simp; done) | (simp; omega) | omega) (by first | omega | (simp; omega))) (own_slV (hS.own _ (List.mem_of_getElem? (i := 0) rfl)).1 (by simp) (by first | rfl | (simp; done) | (simp; omega) | omega) (by first | omega | (simp; omega)))) (fun _ _ _ h => h)) (rfl)) <|
        sq rfl (q_pick_t rfl rfl) <|
        sq rfl (q_move rfl) <|
        sq_go 34 rfl rfl rfl (q_move rfl) <|
        sq_end) ?_
    clear hF hS; intro a w hF hS
    refine wpl_efg hF hS (wanted_go 34 rfl rfl) rfl (ef_call fn16 rfl (fun w hS => wbytes_ct _ (by first | assumption | omega) w )) ?_
    clear hF hS; rintro v5 _ _ a w ⟨_, _, rfl, rfl, rfl, rfl⟩ hF hS
    replace hS : St _ [] [_, _, _] _ := hS
    refine wpl_sq hF hS (sq_go 34 rfl rfl rfl (q_move rfl) <|
        sq_end) ?_
    clear hF hS; intro a w hF hS
    refine wpl_efg hF hS (wanted_go 34 rfl rfl) rfl (ef_call fn17 rfl (fun w hS => rbytes_ct _ (by first | with_reducible assumption | omega) w )) ?_
    clear hF hS; rintro v7 _ _ a w ⟨_, _, rfl, rfl, rfl, rfl⟩ hF hS
    replace hS : St _ [] [_, _, _, _] _ := hS
    refine wpl_sq hF hS (sq_go 34 rfl rfl rfl (q_dt (q_call fn13 rfl (fun w hS => same_ct _ _ _ _ w (own_slV (hS.own _ (List.mem_of_getElem? (i := 1) rfl)).1 (by simp) (by first | rfl | (simp; done) | (simp; omega) | omega) (by first | omega | (simp; omega))) (own_slV (hS.own _ (List.mem_of_getElem? (i := 0) rfl)).1 (by simp) (by first | rfl | (simp; done) | (simp; omega) | omega) (by first | omega | (simp; omega)))) (fun _ _ _ h => h)) (rfl)) <|
        sq rfl (q_pick_t rfl rfl) <|
        sq rfl (q_move rfl) <|
        sq_go 41 rfl rfl rfl (q_move rfl) <|
        sq_end) ?_
    clear hF hS; intro a w hF hS
    refine wpl_efg hF hS (wanted_go 41 rfl rfl) rfl (ef_call fn18 rfl (fun w hS => wints_ct _ _ (by first | with_reducible assumption | omega) w (Sl.mono (hS.le zin0) hl))) ?_
    clear hF hS; rintro v9 _ _ a w ⟨_, _, rfl, rfl, rfl, rfl⟩ hF hS
    replace hS : St _ [] [_, _, _, _, _] _ := hS
    refine wpl_sq hF hS (sq_go 41 rfl rfl rfl (q_move rfl) <|
        sq_end) ?_
    clear hF hS; intro a w hF hS
    refine wpl_efg hF hS (wanted_go 41 rfl rfl) rfl (ef_call fn19 rfl (fun w hS => rints_ct _ _ (by first | with_reducible assumption | omega) w (Sl.mono (hS.le zin0) hl))) ?_
    clear hF hS; rintro v11 _ _ a w ⟨_, _, rfl, rfl, rfl, rfl⟩ hF hS
    replace hS : St _ [] [_, _, _, _, _, _] _ := hS
    refine wpl_sq hF hS (sq_go 41 rfl rfl rfl (q_dt (q_call fn13 rfl (fun w hS => same_ct _ _ _ _ w (own_slV (hS.own _ (List.mem_of_getElem? (i := 1) rfl)).1 (by simp) (by first | rfl | (simp; done) | (simp; omega) | omega) (by first | omega | (simp; omega))) (own_slV (hS.own _ (List.mem_of_getElem? (i := 0) rfl)).1 (by simp) (by first | rfl | (simp; done) | (simp; omega) | omega) (by first | omega | (simp; omega)))) (fun _ _ _ h => h)) (rfl)) <|
        sq rfl (q_pick_t rfl rfl) <|
        sq rfl (q_move rfl) <|
        sq_go 48 rfl rfl rfl (q_move rfl) <|
        sq_end) ?_
    clear hF hS; intro a w hF hS
    refine wpl_efg hF hS (wanted_go 48 rfl rfl) rfl (ef_call fn20 rfl (fun w hS => wstrs_ct _ _ (by omega) (fun p hp => by have := hfu.2 p hp; omega) w (Sl.mono (hS.le zin0) hxs))) ?_
    clear hF hS; rintro v13 _ _ a w ⟨_, _, rfl, rfl, rfl, rfl⟩ hF hS
    replace hS : St _ [] [_, _, _, _, _, _, _] _ := hS
    refine wpl_sq hF hS (sq_go 48 rfl rfl rfl (q_move rfl) <|
        sq_end) ?_
    clear hF hS; intro a w hF hS
    refine wpl_efg hF hS (wanted_go 48 rfl rfl) rfl (ef_call fn21 rfl (fun w hS => rstrs_ct _ _ (by omega) (fun p hp => by have := hfu.2 p hp; omega) w (Sl.mono (hS.le zin0) hxs))) ?_
    clear hF hS; rintro v15 _ _ a w ⟨_, _, rfl, rfl, rfl, rfl⟩ hF hS
    replace hS : St _ [] [_, _, _, _, _, _, _, _] _ := hS
    refine wpl_sq hF hS (sq_go 48 rfl rfl rfl (q_dt (q_call fn13 rfl (fun w hS => same_ct _ _ _ _ w (own_slV (hS.own _ (List.mem_of_getElem? (i := 1) rfl)).1 (by simp) (by first | rfl | (simp; done) | (simp; omega) | omega) (by first | omega | (simp; omega))) (own_slV (hS.own _ (List.mem_of_getElem? (i := 0) rfl)).1 (by simp) (by first | rfl | (simp; done) | (simp; omega) | omega) (by first | omega | (simp; omega)))) (fun _ _ _ h => h)) (rfl)) <|
        sq rfl (q_pick_t rfl rfl) <|
        sq rfl (q_move rfl) <|
        sq_go 55 rfl rfl rfl (q_move rfl) <|
        sq_end) ?_
    clear hF hS; intro a w hF hS
    refine wpl_efg hF hS (wanted_go 55 rfl rfl) rfl (ef_call fn22 rfl (fun w hS => wdigs_ct _ _ (by first | with_reducible assumption | omega) w (Sl.mono (hS.le zin0) hd))) ?_
    clear hF hS; rintro v17 _ _ a w ⟨_, _, rfl, rfl, rfl, rfl⟩ hF hS
    replace hS : St _ [] [_, _, _, _, _, _, _, _, _] _ := hS
    refine wpl_sq hF hS (sq_go 55 rfl rfl rfl (q_move rfl) <|
        sq_end) ?_
    clear hF hS; intro a w hF hS
    refine wpl_efg hF hS (wanted_go 55 rfl rfl) rfl (ef_call fn23 rfl (fun w hS => rdigs_ct _ _ (by first | with_reducible assumption | omega) w (Sl.mono (hS.le zin0) hd))) ?_
    clear hF hS; rintro v19 _ _ a w ⟨_, _, rfl, rfl, rfl, rfl⟩ hF hS
    replace hS : St _ [] [_, _, _, _, _, _, _, _, _, _] _ := hS
    refine wpl_sq hF hS (sq_go 55 rfl rfl rfl (q_dt (q_call fn13 rfl (fun w hS => same_ct _ _ _ _ w (own_slV (hS.own _ (List.mem_of_getElem? (i := 1) rfl)).1 (by simp) (by first | rfl | (simp; done) | (simp; omega) | omega) (by first | omega | (simp; omega))) (own_slV (hS.own _ (List.mem_of_getElem? (i := 0) rfl)).1 (by simp) (by first | rfl | (simp; done) | (simp; omega) | omega) (by first | omega | (simp; omega)))) (fun _ _ _ h => h)) (rfl)) <|
        sq rfl (q_pick_t rfl rfl) <|
        sq rfl (q_assign rfl) <|
        sq_end) ?_
    clear hF hS; intro a w hF hS
    refine wpList_nil ?_
    refine hK5 _ _ ?_
    clear hK5
    refine wp_ret ?_
    exact fn_ret (rs := [.tmp 10]) rfl hF hS (vs := [_]) ⟨rfl, trivial⟩ (List.nil_sublist _) (List.nil_sublist _) (rfl)

set_option maxRecDepth 4000 in
set_option maxHeartbeats 2000000 in
theorem law13_ct (s : List UInt8) (hs : s.length ≤ 140737488355328) (v1 : Value) (l : List Int) (v2 : Value) (x : List (List UInt8)) (hx : ∀ i, fewN x i < 4611686018427387904) (v3 : Value) (d : List (List UInt8)) (v4 : Value) (xs : List UInt8) (w : World) (hl : Sl encI (ph w) v1 l) (hxs : Sl encS (ph w) v2 x) (hd : Sl (encA 16) (ph w) v3 d) (hb : Sl encB (ph w) v4 xs) : Ct Try.prog 8 [vs s, v1, v2, v3, v4] w (fun r _ _ => r = .bool true) := by
  refine fn_enter Try.func8 rfl Try.ntmps8 (Nat.le_of_ble_eq_true rfl) fun a hF hS => ?_
  have hll := hl.1
  have hxl := hxs.1
  have hdl := hd.1
  have h16 : ∀ y ∈ d, y.length = 16 := fun y hy => by obtain ⟨i, hi, rfl⟩ := List.mem_iff_getElem.1 hy; exact (hd.rep (i := i) (x := d[i]) (by simp [hi])).1
  have hrg : ∀ x ∈ l, -9223372036854775808 ≤ x ∧ x ≤ 9223372036854775807 := fun x hx => by obtain ⟨i, hi, rfl⟩ := List.mem_iff_getElem.1 hx; exact (hl.rep (i := i) (x := l[i]) (by simp [hi])).2
  have hbl := hb.1
  refine wp_seq_k ?_; intro K1 hK1
  refine reg hF hS (sq rfl (q_assign rfl) <|
      sq_end) ?_
  clear hF hS; intro a w hF hS
  refine hK1 _ _ ?_
  clear hK1
  refine wp_seq_k ?_; intro K2 hK2
  refine wp_seq_k ?_; intro K3 hK3
  refine regl ?_
  refine wpl_sq hF hS (sq rfl (q_move rfl) <|
      sq rfl (q_len_s ty9 rfl) <|
      sq rfl (q_move rfl) <|
      sq rfl (q_len_sl ty22 hl rfl) <|
      sq rfl (q_addi rfl rfl (by omega)) <|
      sq rfl (q_move rfl) <|
      sq rfl (q_len_sl ty24 hd rfl) <|
      sq rfl (q_addi rfl rfl (by omega)) <|
      sq rfl (q_move rfl) <|
      sq rfl (q_len_sl ty28 hb rfl) <|
      sq rfl (q_addi rfl rfl (by omega)) <|
      sq rfl (q_gti rfl rfl) <|
      sq rfl (q_move rfl) <|
      sq_end) ?_
  clear hF hS; intro a w hF hS
  refine wpl_or 12 39 3 hF hS rfl rfl rfl rfl rfl (fun hg => have hg := (by first | exact of_decide_eq_false hg | exact hg); sq_go 39 rfl rfl rfl (q_move rfl) <|
      sq_go 39 rfl rfl rfl (q_call fn11 rfl (fun w hS => few_ct _ _ (by first | with_reducible assumption | omega) w (Sl.mono (hS.le zin0) hxs)) (fun _ _ _ h => h)) <|
      sq_go 39 rfl rfl rfl (q_not rfl) <|
      sq_end) rfl rfl ?_
  clear hF hS; intro a w hF hS
  refine wpList_nil ?_
  refine hK3 _ _ ?_
  clear hK3
  refine wp_if hF rfl (fun hc1 => ?_) (fun hc1 => ?_)
  · (try simp only [Bool.or_eq_true, Bool.and_eq_true, Bool.or_eq_false_iff, Bool.and_eq_false_iff, decide_eq_true_eq, decide_eq_false_iff_not, Bool.not_eq_true', Bool.not_eq_false'] at hc1)
    refine wp_seq_k ?_; intro K4 hK4
    refine reg hF hS (sq rfl (q_call fn12 rfl (fun w hS => sanity_ct w ) (fun _ _ _ h => h)) <|
        sq rfl (q_assign rfl) <|
        sq_end) ?_
    clear hF hS; intro a w hF hS
    refine hK4 _ _ ?_
    clear hK4
    refine wp_ret ?_
    exact fn_ret (rs := [.tmp 10]) rfl hF hS (vs := [_]) ⟨rfl, trivial⟩ (List.nil_sublist _) (List.nil_sublist _) (rfl)
  · (try simp only [Bool.or_eq_true, Bool.and_eq_true, Bool.or_eq_false_iff, Bool.and_eq_false_iff, decide_eq_true_eq, decide_eq_false_iff_not, Bool.not_eq_true', Bool.not_eq_false'] at hc1)
    have hfu := few_use (by simp at hc1; exact hc1.2)
    have hsz : s.length + l.length + d.length + xs.length ≤ 2000 := by simp at hc1; omega
    have hbs := Wi.bytes_len s
    have hil := Wi.ints_len2 l
    have hsl := Wi.strs_len9 x hfu.2
    have hss := Nat.mul_le_mul (show x.length ≤ 2000 by omega) (Nat.le_refl (2000 + 9))
    have hdg := Wi.dgs_len9 d h16
    have hgb : Wi.getBytes (Wi.bytes s ++ xs) = (s, ((Wi.bytes s).length : Int), 0) := Wi.codec_bytes.rt s xs (by omega)
    have hgi := Wi.ints_rtt l (by omega) hrg xs
    have hgs := Wi.strs_rtt x (by omega) (fun p hp => by have := hfu.2 p hp; omega) xs
    have hgd := Wi.digs_rt d (by omega) h16 xs
    have hgs1 : (Wi.getList Wi.getBytes (Wi.strs x ++ xs)).1 = x := by rw [hgs]
    have hgi1 : (Wi.getList Wi.getInt (Wi.ints l ++ xs)).1 = l := by rw [hgi]
    have hgd1 : (Wi.getDigs (Wi.dgs d ++ xs)).1 = d := by rw [hgd]
    refine wp_skip ?_
    refine hK2 _ _ ?_
    clear hK2
    refine wp_seq_k ?_; intro K5 hK5
    refine regl ?_
    refine wpl_sq hF hS (sq rfl (q_move rfl) <|
        sq_end) ?_
    clear hF hS; intro a w hF hS
    refine wpl_ef hF hS rfl (ef_call fn16 rfl (fun w hS => wbytes_ct _ (by first | assumption | omega) w )) ?_
    clear hF hS; rintro v1 _ _ a w ⟨_, _, rfl, rfl, rfl, rfl⟩ hF hS
    replace hS : St _ [] [_] _ := hS
    refine wpl_sq hF hS (sq rfl (q_move rfl) <|
        sq_end) ?_
    clear hF hS; intro a w hF hS
    refine wpl_ef hF hS rfl (ef_call fn18 rfl (fun w hS => wints_ct _ _ (by first | with_reducible assumption | omega) w (Sl.mono (hS.le zin0) hl))) ?_
    clear hF hS; rintro v3 _ _ a w ⟨_, _, rfl, rfl, rfl, rfl⟩ hF hS
    replace hS : St _ [] [_, _] _ := hS
    refine wpl_sq hF hS (sq rfl (q_move rfl) <|
        sq_end) ?_
    clear hF hS; intro a w hF hS
    refine wpl_ef hF hS rfl (ef_call fn22 rfl (fun w hS => wdigs_ct _ _ (by first | with_reducible assumption | omega) w (Sl.mono (hS.le zin0) hd))) ?_
    clear hF hS; rintro v5 _ _ a w ⟨_, _, rfl, rfl, rfl, rfl⟩ hF hS
    replace hS : St _ [] [_, _, _] _ := hS
    refine wpl_sq hF hS (sq rfl (q_move rfl) <|
        sq_end) ?_
    clear hF hS; intro a w hF hS
    refine wpl_ef hF hS rfl (ef_call fn20 rfl (fun w hS => wstrs_ct _ _ (by omega) (fun p hp => by have := hfu.2 p hp; omega) w (Sl.mono (hS.le zin0) hxs))) ?_
    clear hF hS; rintro v7 _ _ a w ⟨_, _, rfl, rfl, rfl, rfl⟩ hF hS
    replace hS : St _ [] [_, _, _, _] _ := hS
    refine wpl_sq hF hS (sq rfl (q_assign rfl) <|
        sq rfl (q_assign rfl) <|
        sq rfl (q_assign rfl) <|
        sq rfl (q_assign rfl) <|
        sq_end) ?_
    clear hF hS; intro a w hF hS
    refine wpList_nil ?_
    replace hS := hS.perm (.cons _ (.cons _ (.swap _ _ _)))
    replace hS := hS.perm (.cons _ (.swap _ _ _))
    replace hS := hS.perm (.swap _ _ _)
    obtain ⟨z9, hz10, hS⟩ := St.freezeB hS (by first | rfl | (simp; done) | (simp; omega)) (by first | omega | (rw [List.length_map]; omega) | (simp; omega) | (simp [*]; done) | decide | (simp [*]; omega))
    replace hS : St _ [_] [_, _, _] _ := hS
    replace hS := hS.perm (.cons _ (.swap _ _ _))
    replace hS := hS.perm (.swap _ _ _)
    obtain ⟨z11, hz12, hS⟩ := St.freezeB hS (by first | rfl | (simp; done) | (simp; omega)) (by first | omega | (rw [List.length_map]; omega) | (simp; omega) | (simp [*]; done) | decide | (simp [*]; omega))
    replace hS : St _ [_, _] [_, _] _ := hS
    replace hS := hS.perm (.swap _ _ _)
    obtain ⟨z13, hz14, hS⟩ := St.freezeB hS (by first | rfl | (simp; done) | (simp; omega)) (by first | omega | (rw [List.length_map]; omega) | (simp; omega) | (simp [*]; done) | decide | (simp [*]; omega))
    replace hS : St _ [_, _, _] [_] _ := hS
    obtain ⟨z15, hz16, hS⟩ := St.freezeB hS (by first | rfl | (simp; done) | (simp; omega)) (by first | omega | (rw [List.length_map]; omega) | (simp; omega) | (simp [*]; done) | decide | (simp [*]; omega))
    replace hS : St _ [_, _, _, _] [] _ := hS
    refine hK5 _ _ ?_
    clear hK5
    refine wp_seq_k ?_; intro K6 hK6
    refine regl ?_
    refine wpl_sq hF hS (sq rfl (q_move rfl) <|
        sq rfl (q_move rfl) <|
        sq rfl (q_len_sl ty28 hz10 rfl) <|
        sq rfl (q_move rfl) <|
        sq rfl (q_len_sl ty28 hz10 rfl) <|
        sq rfl (q_slsl_full ty28 ty5 hz10 rfl rfl rfl (by first | omega | (rw [List.length_map]; omega) | (simp; omega) | (simp [*]; done) | decide | (simp [*]; omega)) (by first | omega | (rw [List.length_map]; omega) | (simp; omega) | (simp [*]; done) | decide | (simp [*]; omega))) <|
        sq rfl (q_move rfl) <|
        sq_end) ?_
    clear hF hS; intro a w hF hS
    refine wpl_ef hF hS rfl (ef_append_full ty28 ty5 hz10 (by simp) rfl rfl (src_slV ty28 hb zin0) (fun _ _ => trivial) (fun _ _ => trivial) (by first | omega | (rw [List.length_map]; omega) | (simp; omega) | (simp [*]; done) | decide | (simp [*]; omega)) (by first | omega | (rw [List.length_map]; omega) | (simp; omega) | (simp [*]; done) | decide | (simp [*]; omega)) rfl) ?_
    clear hF hS; rintro v17 _ _ a w ⟨z18, rfl, rfl, hz19⟩ hF hS
    replace hS : St _ [_, _, _, _, _] [] _ := hS
    refine wpl_sq hF hS (sq rfl (q_call fn26 rfl (fun w hS => wgb_ct _ _ w (Sl.mono (hS.le (.inr (by simp))) hz19)) (fun _ _ _ h => h)) <|
        sq rfl (q_move rfl) <|
        sq rfl (q_extract rfl rfl) <|
        sq rfl (q_extract rfl rfl) <|
        sq rfl (q_extract rfl rfl) <|
        sq rfl (q_assign rfl) <|
        sq rfl (q_assign rfl) <|
        sq rfl (q_assign rfl) <|
        sq_end) ?_
    clear hF hS; intro a w hF hS
    refine wpList_nil ?_
    refine hK6 _ _ ?_
    clear hK6
    refine wp_seq_k ?_; intro K7 hK7
    refine regl ?_
    refine wpl_sq hF hS (sq rfl (q_move rfl) <|
        sq rfl (q_move rfl) <|
        sq rfl (q_len_sl ty28 hz12 rfl) <|
        sq rfl (q_move rfl) <|
        sq rfl (q_len_sl ty28 hz12 rfl) <|
        sq rfl (q_slsl_full ty28 ty5 hz12 rfl rfl rfl (by first | omega | (rw [List.length_map]; omega) | (simp; omega) | (simp [*]; done) | decide | (simp [*]; omega)) (by first | omega | (rw [List.length_map]; omega) | (simp; omega) | (simp [*]; done) | decide | (simp [*]; omega))) <|
        sq rfl (q_move rfl) <|
        sq_end) ?_
    clear hF hS; intro a w hF hS
    refine wpl_ef hF hS rfl (ef_append_full ty28 ty5 hz12 (by simp) rfl rfl (src_slV ty28 hb zin0) (fun _ _ => trivial) (fun _ _ => trivial) (by first | omega | (rw [List.length_map]; omega) | (simp; omega) | (simp [*]; done) | decide | (simp [*]; omega)) (by first | omega | (rw [List.length_map]; omega) | (simp; omega) | (simp [*]; done) | decide | (simp [*]; omega)) rfl) ?_
    clear hF hS; rintro v20 _ _ a w ⟨z21, rfl, rfl, hz22⟩ hF hS
    replace hS : St _ [_, _, _, _, _, _] [] _ := hS
    refine wpl_ef hF hS rfl (ef_call fn28 rfl (fun w hS => wgis_ct _ _ (by rw [List.length_append]; omega) w (Sl.mono (hS.le (.inr (by simp))) hz22))) ?_
    clear hF hS; rintro _ _ _ a w ⟨_, _, rfl, rfl, ⟨v24, z25, rfl, hz26, rfl, rfl⟩⟩ hF hS
    replace hS : St _ [_, _, _, _, _, _, _] [] _ := hS
    refine wpl_sq hF hS (sq rfl (q_move rfl) <|
        sq rfl (q_extract rfl rfl) <|
        sq rfl (q_extract rfl rfl) <|
        sq rfl (q_extract rfl rfl) <|
        sq rfl (q_assign rfl) <|
        sq rfl (q_assign rfl) <|
        sq rfl (q_assign rfl) <|
        sq_end) ?_
    clear hF hS; intro a w hF hS
    refine wpList_nil ?_
    refine hK7 _ _ ?_
    clear hK7
    refine wp_seq_k ?_; intro K8 hK8
    refine regl ?_
    refine wpl_sq hF hS (sq rfl (q_move rfl) <|
        sq rfl (q_move rfl) <|
        sq rfl (q_len_sl ty28 hz14 rfl) <|
        sq rfl (q_move rfl) <|
        sq rfl (q_len_sl ty28 hz14 rfl) <|
        sq rfl (q_slsl_full ty28 ty5 hz14 rfl rfl rfl (by first | omega | (rw [List.length_map]; omega) | (simp; omega) | (simp [*]; done) | decide | (simp [*]; omega)) (by first | omega | (rw [List.length_map]; omega) | (simp; omega) | (simp [*]; done) | decide | (simp [*]; omega))) <|
        sq rfl (q_move rfl) <|
        sq_end) ?_
    clear hF hS; intro a w hF hS
    refine wpl_ef hF hS rfl (ef_append_full ty28 ty5 hz14 (by simp) rfl rfl (src_slV ty28 hb zin0) (fun _ _ => trivial) (fun _ _ => trivial) (by first | omega | (rw [List.length_map]; omega) | (simp; omega) | (simp [*]; done) | decide | (simp [*]; omega)) (by first | omega | (rw [List.length_map]; omega) | (simp; omega) | (simp [*]; done) | decide | (simp [*]; omega)) rfl) ?_
    clear hF hS; rintro v27 _ _ a w ⟨z28, rfl, rfl, hz29⟩ hF hS
    replace hS : St _ [_, _, _, _, _, _, _, _] [] _ := hS
    refine wpl_ef hF hS rfl (ef_call fn34 rfl (fun w hS => wgds_ct _ _ (by rw [List.length_append]; omega) w (Sl.mono (hS.le (.inr (by simp))) hz29))) ?_
    clear hF hS; rintro _ _ _ a w ⟨_, _, rfl, rfl, ⟨v31, z32, rfl, hz33, rfl, rfl⟩⟩ hF hS
    replace hS : St _ [_, _, _, _, _, _, _, _, _] [] _ := hS
    refine wpl_sq hF hS (sq rfl (q_move rfl) <|
        sq rfl (q_extract rfl rfl) <|
        sq rfl (q_extract rfl rfl) <|
        sq rfl (q_extract rfl rfl) <|
        sq rfl (q_assign rfl) <|
        sq rfl (q_assign rfl) <|
        sq rfl (q_assign rfl) <|
        sq_end) ?_
    clear hF hS; intro a w hF hS
    refine wpList_nil ?_
    refine hK8 _ _ ?_
    clear hK8
    refine wp_seq_k ?_; intro K9 hK9
    refine regl ?_
    refine wpl_sq hF hS (sq rfl (q_move rfl) <|
        sq rfl (q_move rfl) <|
        sq rfl (q_len_sl ty28 hz16 rfl) <|
        sq rfl (q_move rfl) <|
        sq rfl (q_len_sl ty28 hz16 rfl) <|
        sq rfl (q_slsl_full ty28 ty5 hz16 rfl rfl rfl (by first | omega | (rw [List.length_map]; omega) | (simp; omega) | (simp [*]; done) | decide | (simp [*]; omega)) (by first | omega | (rw [List.length_map]; omega) | (simp; omega) | (simp [*]; done) | decide | (simp [*]; omega))) <|
        sq rfl (q_move rfl) <|
        sq_end) ?_
    clear hF hS; intro a w hF hS
    refine wpl_ef hF hS rfl (ef_append_full ty28 ty5 hz16 (by simp) rfl rfl (src_slV ty28 hb zin0) (fun _ _ => trivial) (fun _ _ => trivial) (by first | omega | (rw [List.length_map]; omega) | (simp; omega) | (simp [*]; done) | decide | (simp [*]; omega)) (by first | omega | (rw [List.length_map]; omega) | (simp; omega) | (simp [*]; done) | decide | (simp [*]; omega)) rfl) ?_
    clear hF hS; rintro v34 _ _ a w ⟨z35, rfl, rfl, hz36⟩ hF hS
    replace hS : St _ [_, _, _, _, _, _, _, _, _, _] [] _ := hS
    refine wpl_ef hF hS rfl (ef_call fn31 rfl (fun w hS => wgss_ct _ _ (by rw [List.length_append]; omega) w (Sl.mono (hS.le (.inr (by simp))) hz36))) ?_
    clear hF hS; rintro _ _ _ a w ⟨_, _, rfl, rfl, ⟨v38, z39, rfl, hz40, rfl, rfl⟩⟩ hF hS
    replace hS : St _ [_, _, _, _, _, _, _, _, _, _, _] [] _ := hS
    refine wpl_sq hF hS (sq rfl (q_move rfl) <|
        sq rfl (q_extract rfl rfl) <|
        sq rfl (q_extract rfl rfl) <|
        sq rfl (q_extract rfl rfl) <|
        sq rfl (q_assign rfl) <|
        sq rfl (q_assign rfl) <|
        sq rfl (q_assign rfl) <|
        sq_end) ?_
    clear hF hS; intro a w hF hS
    refine wpList_nil ?_
    refine hK9 _ _ ?_
    clear hK9
    refine wp_seq_k ?_; intro K10 hK10
    refine reg hF hS (sq rfl (q_call fn12 rfl (fun w hS => sanity_ct w ) (fun _ _ _ h => h)) <|
        sq rfl (q_move rfl) <|
        sq_go 106 rfl rfl rfl (q_move rfl) <|
        sq_go 106 rfl rfl rfl (q_move rfl) <|
        sq_go 106 rfl rfl rfl (q_dt (q_call fn33 rfl (fun w hS => samet_ct _ _ _ _ w (Sl.mono (hS.le (.inr (by simp))) hz40) (Sl.mono (hS.le zin0) hxs)) (fun _ _ _ h => h)) (hgs1)) <|
        sq rfl (q_pick_t rfl rfl) <|
        sq rfl (q_move rfl) <|
        sq_go 111 rfl rfl rfl (q_move rfl) <|
        sq_go 111 rfl rfl rfl (q_move rfl) <|
        sq_go 111 rfl rfl rfl (q_len_sl ty28 hz16 rfl) <|
        sq_go 111 rfl rfl rfl (q_dt (q_eqi rfl rfl) (by rw [hgs])) <|
        sq rfl (q_pick_t rfl rfl) <|
        sq rfl (q_move rfl) <|
        sq_go 117 rfl rfl rfl (q_move rfl) <|
        sq_go 117 rfl rfl rfl (q_dt (q_eqi rfl rfl) (by rw [hgs])) <|
        sq rfl (q_pick_t rfl rfl) <|
        sq rfl (q_move rfl) <|
        sq_go 121 rfl rfl rfl (q_move rfl) <|
        sq_go 121 rfl rfl rfl (q_move rfl) <|
        sq_go 121 rfl rfl rfl (q_dt (q_eqs rfl rfl) (by rw [hgb])) <|
        sq rfl (q_pick_t rfl rfl) <|
        sq rfl (q_move rfl) <|
        sq_go 126 rfl rfl rfl (q_move rfl) <|
        sq_go 126 rfl rfl rfl (q_move rfl) <|
        sq_go 126 rfl rfl rfl (q_len_sl ty28 hz10 rfl) <|
        sq_go 126 rfl rfl rfl (q_dt (q_eqi rfl rfl) (by rw [hgb])) <|
        sq rfl (q_pick_t rfl rfl) <|
        sq rfl (q_move rfl) <|
        sq_go 132 rfl rfl rfl (q_move rfl) <|
        sq_go 132 rfl rfl rfl (q_dt (q_eqi rfl rfl) (by rw [hgb])) <|
        sq rfl (q_pick_t rfl rfl) <|
        sq rfl (q_move rfl) <|
        sq_go 136 rfl rfl rfl (q_move rfl) <|
        sq_go 136 rfl rfl rfl (q_move rfl) <|
        sq_go 136 rfl rfl rfl (q_dt (q_call fn30 rfl (fun w hS => samei_ct _ _ _ _ w (Sl.mono (hS.le (.inr (by simp))) hz26) (Sl.mono (hS.le zin0) hl)) (fun _ _ _ h => h)) (hgi1)) <|
        sq rfl (q_pick_t rfl rfl) <|
        sq rfl (q_move rfl) <|
        sq_go 141 rfl rfl rfl (q_move rfl) <|
        sq_go 141 rfl rfl rfl (q_move rfl) <|
        sq_go 141 rfl rfl rfl (q_len_sl ty28 hz12 rfl) <|
        sq_go 141 rfl rfl rfl (q_dt (q_eqi rfl rfl) (by rw [hgi])) <|
        sq rfl (q_pick_t rfl rfl) <|
        sq rfl (q_move rfl) <|
        sq_go 147 rfl rfl rfl (q_move rfl) <|
        sq_go 147 rfl rfl rfl (q_dt (q_eqi rfl rfl) (by rw [hgi])) <|
        sq rfl (q_pick_t rfl rfl) <|
        sq rfl (q_move rfl) <|
        sq_go 151 rfl rfl rfl (q_move rfl) <|
        sq_go 151 rfl rfl rfl (q_move rfl) <|
        sq_go 151 rfl rfl rfl (q_dt (q_call fn36 rfl (fun w hS => samed_ct _ _ _ _ w (Sl.mono (hS.le (.inr (by simp))) hz33) (Sl.mono (hS.le zin0) hd)) (fun _ _ _ h => h)) (hgd1)) <|
        sq rfl (q_pick_t rfl rfl) <|
        sq rfl (q_move rfl) <|
        sq_go 156 rfl rfl rfl (q_move rfl) <|
        sq_go 156 rfl rfl rfl (q_move rfl) <|
        sq_go 156 rfl rfl rfl (q_len_sl ty28 hz14 rfl) <|
        sq_go 156 rfl rfl rfl (q_dt (q_eqi rfl rfl) (by rw [hgd])) <|
        sq rfl (q_pick_t rfl rfl) <|
        sq rfl (q_move rfl) <|
        sq_go 162 rfl rfl rfl (q_move rfl) <|
        sq_go 162 rfl rfl rfl (q_dt (q_eqi rfl rfl) (by rw [hgd])) <|
        sq rfl (q_pick_t rfl rfl) <|
        sq rfl (q_assign rfl) <|
        sq_end) ?_
    clear hF hS; intro a w hF hS
    refine hK10 _ _ ?_
    clear hK10
    refine wp_ret ?_
    exact fn_ret (rs := [.tmp 10]) rfl hF hS (vs := [_]) ⟨rfl, trivial⟩ (List.nil_sublist _) (List.nil_sublist _) (rfl)
end Go.Proofs.Ytcolgcdnpfpcdaa
