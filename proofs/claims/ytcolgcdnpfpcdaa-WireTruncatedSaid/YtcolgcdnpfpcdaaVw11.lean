/- A text of a proof over this seat: walks over the program's functions and the plain laws that they need. -/
import Derived.Test.YtcolgcdnpfpcdaaVw10
import Derived.Test.YtcolgcdnpfpcdaaWi9
import Derived.Test.YtcolgcdnpfpcdaaFw23
import Derived.Test.YtcolgcdnpfpcdaaVw10
set_option linter.all false
namespace Go.Proofs.Ytcolgcdnpfpcdaa
open Go.Fw
theorem ty54 : Tf Try.prog 54 (.slice 28) 1 24 (Value.slice none 0 0) := ⟨Try.underlying54, by kernel_rfl⟩

theorem flat_40 : ∀ (ps : List (List UInt8)), (∀ p ∈ ps, p.length ≤ 140737488355328) → ps.flatten.length ≤ ps.length * 140737488355328
  | [], _ => by simp
  | p :: ps, h => by
    have := flat_40 ps fun q hq => h q (by simp [hq])
    have := h p (by simp)
    rw [List.flatten_cons, List.length_append, List.length_cons]
    omega
theorem few_lt {ps : List (List UInt8)} (h : ps.length ≤ 40) (hp : ∀ p ∈ ps, p.length ≤ 140737488355328) (i : Nat) : fewN ps i < 4611686018427387904 := by
  have := flat_40 (ps.take i) fun p hq => hp p (List.mem_of_mem_take hq)
  have h2 : (ps.take i).length ≤ ps.length := by rw [List.length_take]; omega
  unfold fewN
  omega

attribute [local irreducible] Wi.int Wi.bytes Wi.ints Wi.strs Wi.dgs Ls.encT Wi.getInt Wi.valBE Wi.vj Wi.cnt Wi.wcnt Wi.getBytes Wi.run Wi.getList Wi.getDigs Wi.dgL Wi.Rg fewAll fewN

set_option maxHeartbeats 2000000 in
theorem law14_ct (n : Int) (hn : Wi.Rg n) (s : List UInt8) (hs : s.length ≤ 140737488355328) (v1 : Value) (l : List Int) (v2 : Value) (x : List (List UInt8)) (v3 : Value) (d : List (List UInt8)) (w : World) (hl : Sl encI (ph w) v1 l) (hxs : Sl encS (ph w) v2 x) (hd : Sl (encA 16) (ph w) v3 d) : Ct Try.prog 9 [vi n, vs s, v1, v2, v3] w (fun r _ _ => r = .bool true) := by
  refine fn_enter Try.func9 rfl Try.ntmps9 (Nat.le_of_ble_eq_true rfl) fun a hF hS => ?_
  have hnr := rg_use9 hn
  have hll := hl.1
  have hxl := hxs.1
  have hdl := hd.1
  have h16 : ∀ y ∈ d, y.length = 16 := fun y hy => by obtain ⟨i, hi, rfl⟩ := List.mem_iff_getElem.1 hy; exact (hd.rep (i := i) (x := d[i]) (by simp [hi])).1
  have hrg : ∀ x ∈ l, -9223372036854775808 ≤ x ∧ x ≤ 9223372036854775807 := fun x hx => by obtain ⟨i, hi, rfl⟩ := List.mem_iff_getElem.1 hx; exact (hl.rep (i := i) (x := l[i]) (by simp [hi])).2
  have hxp : ∀ p ∈ x, p.length ≤ 140737488355328 := fun p hp => by obtain ⟨i, hi, rfl⟩ := List.mem_iff_getElem.1 hp; exact (hxs.rep (i := i) (x := x[i]) (by simp [hi])).2
  refine wp_seq_k ?_; intro K1 hK1
  refine reg hF hS (sq rfl (q_assign rfl) <|
      sq_end) ?_
  clear hF hS; intro a w hF hS
  refine hK1 _ _ ?_
  clear hK1
  refine wp_seq_k ?_; intro K2 hK2
  refine wp_seq_k ?_; intro K3 hK3
  refine regl ?_
  refine wpl_sq hF hS (sq rfl (q_move rfl) <|
      sq rfl (q_len_s ty9 rfl) <|
      sq rfl (q_move rfl) <|
      sq rfl (q_len_sl ty22 hl rfl) <|
      sq rfl (q_muli rfl rfl (by omega)) <|
      sq rfl (q_addi rfl rfl (by omega)) <|
      sq rfl (q_move rfl) <|
      sq rfl (q_len_sl ty24 hd rfl) <|
      sq rfl (q_muli rfl rfl (by omega)) <|
      sq rfl (q_addi rfl rfl (by omega)) <|
      sq rfl (q_gti rfl rfl) <|
      sq rfl (q_move rfl) <|
      sq_end) ?_
  clear hF hS; intro a w hF hS
  refine wpl_or 11 26 3 hF hS rfl rfl rfl rfl rfl (fun hg => have hg := (by first | exact of_decide_eq_false hg | exact hg); sq_go 26 rfl rfl rfl (q_move rfl) <|
      sq_go 26 rfl rfl rfl (q_len_sl ty23 hxs rfl) <|
      sq_go 26 rfl rfl rfl (q_gti rfl rfl) <|
      sq_end) rfl rfl ?_
  clear hF hS; intro a w hF hS
  refine wpl_sq hF hS (sq rfl (q_move rfl) <|
      sq_end) ?_
  clear hF hS; intro a w hF hS
  refine wpl_or 16 31 3 hF hS rfl rfl rfl rfl rfl (fun hg => have hg := hg; sq_go 31 rfl rfl rfl (q_move rfl) <|
      sq_go 31 rfl rfl rfl (q_call fn11 rfl (fun w hS => few_ct _ _ (few_lt (by simp only [Bool.or_eq_false_iff, decide_eq_false_iff_not] at hg; omega) hxp) w (Sl.mono (hS.le zin0) hxs)) (fun _ _ _ h => h)) <|
      sq_go 31 rfl rfl rfl (q_not rfl) <|
      sq_end) rfl rfl ?_
  clear hF hS; intro a w hF hS
  refine wpList_nil ?_
  refine hK3 _ _ ?_
  clear hK3
  refine wp_if hF rfl (fun hc1 => ?_) (fun hc1 => ?_)
  · (try simp only [Bool.or_eq_true, Bool.and_eq_true, Bool.or_eq_false_iff, Bool.and_eq_false_iff, decide_eq_true_eq, decide_eq_false_iff_not, Bool.not_eq_true', Bool.not_eq_false'] at hc1)
    refine wp_seq_k ?_; intro K4 hK4
    refine reg hF hS (sq rfl (q_call fn12 rfl (fun w hS => sanity_ct w ) (fun _ _ _ h => h)) <|
        sq rfl (q_assign rfl) <|
        sq_end) ?_
    clear hF hS; intro a w hF hS
    refine hK4 _ _ ?_
    clear hK4
    refine wp_ret ?_
    exact fn_ret (rs := [.tmp 10]) rfl hF hS (vs := [_]) ⟨rfl, trivial⟩ (List.nil_sublist _) (List.nil_sublist _) (rfl)
  · (try simp only [Bool.or_eq_true, Bool.and_eq_true, Bool.or_eq_false_iff, Bool.and_eq_false_iff, decide_eq_true_eq, decide_eq_false_iff_not, Bool.not_eq_true', Bool.not_eq_false'] at hc1)
    have hfu := few_use (by simp at hc1; exact hc1.2)
    have hsz : s.length + 9 * l.length + 16 * d.length ≤ 400 ∧ x.length ≤ 40 := by simp at hc1; omega
    have hbs := Wi.bytes_len s
    have hil := Wi.ints_len2 l
    have hsl := Wi.strs_len9 x hfu.2
    have hss := Nat.mul_le_mul (show x.length ≤ 2000 by omega) (Nat.le_refl (2000 + 9))
    have hdg := Wi.dgs_len9 d h16
    have hie := Wi.int_len9 n
    refine wp_skip ?_
    refine hK2 _ _ ?_
    clear hK2
    refine wp_seq_k ?_; intro K5 hK5
    refine wp_seq_k ?_; intro K6 hK6
    refine regl ?_
    refine wpl_sq hF hS (sq rfl (q_move rfl) <|
        sq_end) ?_
    clear hF hS; intro a w hF hS
    refine wpl_ef hF hS rfl (ef_call fn14 rfl (fun w hS => wint_ct _ w )) ?_
    clear hF hS; rintro v1 _ _ a w ⟨_, _, rfl, rfl, rfl, rfl⟩ hF hS
    replace hS : St _ [] [_] _ := hS
    refine wpl_sq hF hS (sq rfl (q_move rfl) <|
        sq_end) ?_
    clear hF hS; intro a w hF hS
    refine wpl_ef hF hS rfl (ef_call fn16 rfl (fun w hS => wbytes_ct _ (by first | assumption | omega) w )) ?_
    clear hF hS; rintro v3 _ _ a w ⟨_, _, rfl, rfl, rfl, rfl⟩ hF hS
    replace hS : St _ [] [_, _] _ := hS
    refine wpl_sq hF hS (sq rfl (q_move rfl) <|
        sq_end) ?_
    clear hF hS; intro a w hF hS
    refine wpl_ef hF hS rfl (ef_call fn18 rfl (fun w hS => wints_ct _ _ (by first | with_reducible assumption | omega) w (Sl.mono (hS.le zin0) hl))) ?_
    clear hF hS; rintro v5 _ _ a w ⟨_, _, rfl, rfl, rfl, rfl⟩ hF hS
    replace hS : St _ [] [_, _, _] _ := hS
    refine wpl_sq hF hS (sq rfl (q_move rfl) <|
        sq_end) ?_
    clear hF hS; intro a w hF hS
    refine wpl_ef hF hS rfl (ef_call fn20 rfl (fun w hS => wstrs_ct _ _ (by omega) (fun p hp => by have := hfu.2 p hp; omega) w (Sl.mono (hS.le zin0) hxs))) ?_
    clear hF hS; rintro v7 _ _ a w ⟨_, _, rfl, rfl, rfl, rfl⟩ hF hS
    replace hS : St _ [] [_, _, _, _] _ := hS
    refine wpl_sq hF hS (sq rfl (q_move rfl) <|
        sq_end) ?_
    clear hF hS; intro a w hF hS
    refine wpl_ef hF hS rfl (ef_call fn22 rfl (fun w hS => wdigs_ct _ _ (by first | with_reducible assumption | omega) w (Sl.mono (hS.le zin0) hd))) ?_
    clear hF hS; rintro v9 _ _ a w ⟨_, _, rfl, rfl, rfl, rfl⟩ hF hS
    replace hS : St _ [] [_, _, _, _, _] _ := hS
    refine wpl_ef hF hS rfl (ef_bsliceA ty54 ty28 rfl rfl (oc_cons (row_one (hS.own _ (List.mem_of_getElem? (i := 4) rfl)).1) (oc_cons (row_one (hS.own _ (List.mem_of_getElem? (i := 3) rfl)).1) (oc_cons (row_one (hS.own _ (List.mem_of_getElem? (i := 2) rfl)).1) (oc_cons (row_one (hS.own _ (List.mem_of_getElem? (i := 1) rfl)).1) (oc_cons (row_one (hS.own _ (List.mem_of_getElem? (i := 0) rfl)).1) oc_nil))))) (by decide) rfl rfl) ?_
    clear hF hS; rintro v11 _ _ a w ⟨rfl, rfl⟩ hF hS
    replace hS : St _ [] [_, _, _, _, _, _] _ := hS
    refine wpl_sq hF hS (sq rfl (q_len_row ty54 0 rfl rfl) <|
        sq rfl (q_move rfl) <|
        sq_end) ?_
    clear hF hS; intro a w hF hS
    refine wpList_nil ?_
    replace hS := hS.perm (.cons _ (.cons _ (.cons _ (.cons _ (.swap _ _ _)))))
    replace hS := hS.perm (.cons _ (.cons _ (.cons _ (.swap _ _ _))))
    replace hS := hS.perm (.cons _ (.cons _ (.swap _ _ _)))
    replace hS := hS.perm (.cons _ (.swap _ _ _))
    replace hS := hS.perm (.swap _ _ _)
    obtain ⟨z13, hz14, hS⟩ := St.freezeB hS (by first | rfl | (simp; done) | (simp; omega)) (by first | omega | (rw [List.length_map]; omega) | (simp; omega) | (simp [*]; done) | decide | (simp [*]; omega))
    replace hS : St _ [_] [_, _, _, _, _] _ := hS
    replace hS := hS.perm (.cons _ (.cons _ (.cons _ (.swap _ _ _))))
    replace hS := hS.perm (.cons _ (.cons _ (.swap _ _ _)))
    replace hS := hS.perm (.cons _ (.swap _ _ _))
    replace hS := hS.perm (.swap _ _ _)
    obtain ⟨z15, hz16, hS⟩ := St.freezeB hS (by first | rfl | (simp; done) | (simp; omega)) (by first | omega | (rw [List.length_map]; omega) | (simp; omega) | (simp [*]; done) | decide | (simp [*]; omega))
    replace hS : St _ [_, _] [_, _, _, _] _ := hS
    replace hS := hS.perm (.cons _ (.cons _ (.swap _ _ _)))
    replace hS := hS.perm (.cons _ (.swap _ _ _))
    replace hS := hS.perm (.swap _ _ _)
    obtain ⟨z17, hz18, hS⟩ := St.freezeB hS (by first | rfl | (simp; done) | (simp; omega)) (by first | omega | (rw [List.length_map]; omega) | (simp; omega) | (simp [*]; done) | decide | (simp [*]; omega))
    replace hS : St _ [_, _, _] [_, _, _] _ := hS
    replace hS := hS.perm (.cons _ (.swap _ _ _))
    replace hS := hS.perm (.swap _ _ _)
    obtain ⟨z19, hz20, hS⟩ := St.freezeB hS (by first | rfl | (simp; done) | (simp; omega)) (by first | omega | (rw [List.length_map]; omega) | (simp; omega) | (simp [*]; done) | decide | (simp [*]; omega))
    replace hS : St _ [_, _, _, _] [_, _] _ := hS
    replace hS := hS.perm (.swap _ _ _)
    obtain ⟨z21, hz22, hS⟩ := St.freezeB hS (by first | rfl | (simp; done) | (simp; omega)) (by first | omega | (rw [List.length_map]; omega) | (simp; omega) | (simp [*]; done) | decide | (simp [*]; omega))
    replace hS : St _ [_, _, _, _, _] [_] _ := hS
    obtain ⟨zu, hzu, hS⟩ := hS.union
    obtain ⟨zl, hzl, hS⟩ := St.freezeSl (E := encB) (xs := [Wi.int n, Wi.bytes s, Wi.ints l, Wi.strs x, Wi.dgs d]) hS (z' := zu) (by simp) rfl (by decide) ⟨hz14.mono (hzu _ (by simp)), hz16.mono (hzu _ (by simp)), hz18.mono (hzu _ (by simp)), hz20.mono (hzu _ (by simp)), hz22.mono (hzu _ (by simp)), trivial⟩
    have hl5 : ([Wi.int n, Wi.bytes s, Wi.ints l, Wi.strs x, Wi.dgs d] : List (List UInt8)).length = 5 := rfl
    replace hS : St _ [_, _, _, _, _, _, _] [] _ := hS
    refine hK6 _ _ ?_
    clear hK6
    refine wp_block ?_
    obtain ⟨hs0, hhs0, hS⟩ : ∃ h, h = _ ∧ St _ _ h _ := ⟨_, rfl, hS⟩
    refine wp_loopx (γ := Int) (0) (fun (k : Int) => [(49, vi k)]) [(47, _), (48, _)] (fun (k : Int) => hs0) (fun (k : Int) => 0 ≤ k ∧ k ≤ 5) (fun (k : Int) => (5 - k).toNat) (hF.sub ⟨rfl, rfl, rfl, trivial⟩) (by subst hhs0; exact hS) (by simp) ?_
    clear hF hS; rintro k a w hfact hF hS
    subst hhs0; (try dsimp only at hfact); (try dsimp only at hF); (try dsimp only at hS)
    obtain ⟨hk0, hk1⟩ := hfact
    replace hS : St _ [_, _, _, _, _, _, _] [] _ := hS
    refine wp_seq_k ?_; intro K7 hK7
    refine reg hF hS (sq rfl (q_lti rfl rfl) <|
        sq_end) ?_
    clear hF hS; intro a w hF hS
    refine hK7 _ _ ?_
    clear hK7
    refine wp_seq_k ?_; intro K8 hK8
    refine wp_ifd hF rfl (fun hc2 => ?_) (fun hc2 => ?_)
    · refine wp_skip ?_
      refine hK8 _ _ ?_
      clear hK8
      refine wp_seq_k ?_; intro K9 hK9
      refine wp_block ?_
      refine wp_seq_k ?_; intro K10 hK10
      refine reg hF hS (sq rfl (q_move rfl) <|
          sq rfl (q_idx_sl ty54 ty28 hzl rfl rfl (by omega)) <|
          sq rfl (q_ld_Sl ty28 hzl (.inr (by simp)) rfl rfl (by omega)) <|
          sq rfl (q_assign rfl) <|
          sq rfl (q_assign rfl) <|
          sq_end) ?_
      clear hF hS; intro a w hF hS
      have hel := elemV_sl (k := k.toNat) hzl (by omega)
      refine hK10 _ _ ?_
      clear hK10
      refine wp_seq_k ?_; intro K11 hK11
      refine reg hF hS (sq rfl (q_move rfl) <|
          sq rfl (q_len_sl ty28 hel rfl) <|
          sq rfl (q_min rfl rfl) <|
          sq rfl (q_move rfl) <|
          sq_end) ?_
      clear hF hS; intro a w hF hS
      refine hK11 _ _ ?_
      clear hK11
      refine wp_block ?_
      obtain ⟨hs0, hhs0, hS⟩ : ∃ h, h = _ ∧ St _ _ h _ := ⟨_, rfl, hS⟩
      refine wp_loopx (γ := Int) (0) (fun (i : Int) => [(57, vi i)]) [(11, _), (12, _), (47, _), (48, _), (49, _), (56, _)] (fun (i : Int) => hs0) (fun (i : Int) => 0 ≤ i) (fun (i : Int) => (500 - i).toNat) (hF.sub ⟨rfl, rfl, rfl, rfl, rfl, rfl, rfl, trivial⟩) (by subst hhs0; exact hS) (by simp) ?_
      clear hF hS; rintro i a w hfact hF hS
      subst hhs0; (try dsimp only at hfact); (try dsimp only at hF); (try dsimp only at hS)
      have hi0 := hfact
      replace hS : St _ [_, _, _, _, _, _, _] [] _ := hS
      refine wp_seq_k ?_; intro K12 hK12
      refine reg hF hS (sq rfl (q_lti rfl rfl) <|
          sq_end) ?_
      clear hF hS; intro a w hF hS
      refine hK12 _ _ ?_
      clear hK12
      refine wp_seq_k ?_; intro K13 hK13
      refine wp_ifd hF rfl (fun hc3 => ?_) (fun hc3 => ?_)
      · refine wp_skip ?_
        refine hK13 _ _ ?_
        clear hK13
        refine wp_seq_k ?_; intro K14 hK14
        refine wp_block ?_
        refine wp_seq_k ?_; intro K15 hK15
        refine reg hF hS (sq rfl (q_move rfl) <|
            sq rfl (q_assign rfl) <|
            sq_end) ?_
        clear hF hS; intro a w hF hS
        refine hK15 _ _ ?_
        clear hK15
        refine wp_seq_k ?_; intro K16 hK16
        refine reg hF hS (sq rfl (q_assign rfl) <|
            sq_end) ?_
        clear hF hS; intro a w hF hS
        refine hK16 _ _ ?_
        clear hK16
        refine wp_seq_k ?_; intro K17 hK17
        refine wp_seq_k ?_; intro K18 hK18
        refine reg hF hS (sq rfl (q_move rfl) <|
            sq_end) ?_
        clear hF hS; intro a w hF hS
        refine hK18 _ _ ?_
        clear hK18
        refine wp_block ?_
        refine wp_seq_k ?_; intro K19 hK19
        refine reg hF hS (sq rfl (q_eqi rfl rfl) <|
            sq rfl (q_assign rfl) <|
            sq_end) ?_
        clear hF hS; intro a w hF hS
        refine hK19 _ _ ?_
        clear hK19
        refine wp_ifd hF rfl (fun hc4 => ?_) (fun hc4 => ?_)
        · obtain rfl : k = 0 := by omega
          rw [show ([Wi.int n, Wi.bytes s, Wi.ints l, Wi.strs x, Wi.dgs d] : List (List UInt8)).getD (Int.toNat 0) [] = Wi.int n from rfl] at hel hc3
          have hdl9 : (List.drop 0 (List.take i.toNat (Wi.int n))).length < 1099511627776 := by rw [List.length_drop, List.length_take]; omega
          have he3 : (Wi.getInt (List.drop 0 (List.take i.toNat (Wi.int n)))).2.2 = 3 := by rw [List.drop_zero]; exact Wi.int_sh n hnr i.toNat (by omega)
          refine reg hF hS (sq rfl (q_move rfl) <|
              sq rfl (q_move rfl) <|
              sq rfl (q_slsl_hi ty28 ty5 hel rfl rfl (by omega)) <|
              sq rfl (q_call fn24 rfl (fun w hS => wgi_ct _ _ w (Sl.mono (hS.le (.inr (by simp))) (Sl.cut hel (by omega)))) (fun _ _ _ h => h)) <|
              sq rfl (q_move rfl) <|
              sq rfl (q_extract rfl rfl) <|
              sq rfl (q_extract rfl rfl) <|
              sq rfl (q_extract rfl rfl) <|
              sq rfl (q_assign rfl) <|
              sq_end) ?_
          clear hF hS; intro a w hF hS
          refine hK17 _ _ ?_
          clear hK17
          refine wp_seq_k ?_; intro K20 hK20
          refine reg hF hS (sq rfl (q_move rfl) <|
              sq rfl (q_nf (q_nei rfl rfl) (he3)) <|
              sq_end) ?_
          clear hF hS; intro a w hF hS
          refine hK20 _ _ ?_
          clear hK20
          refine wp_if hF rfl (fun h => absurd h (by simp)) (fun _ => ?_)
          refine wp_skip ?_
          refine hK14 _ _ ?_
          clear hK14
          refine reg hF hS (sq rfl (q_addi rfl rfl (by omega)) <|
              sq rfl (q_move rfl) <|
              sq_end) ?_
          clear hF hS; intro a w hF hS
          refine ⟨(i + 1), ?_, ?_, hF.sub ⟨rfl, rfl, rfl, rfl, rfl, rfl, rfl, trivial⟩, ?_⟩
          · (try dsimp only); omega
          · (try dsimp only); omega
          · exact hS
        · refine wp_seq_k ?_; intro K21 hK21
          refine reg hF hS (sq rfl (q_eqi rfl rfl) <|
              sq rfl (q_assign rfl) <|
              sq_end) ?_
          clear hF hS; intro a w hF hS
          refine hK21 _ _ ?_
          clear hK21
          refine wp_ifd hF rfl (fun hc6 => ?_) (fun hc6 => ?_)
          · obtain rfl : k = 1 := by omega
            rw [show ([Wi.int n, Wi.bytes s, Wi.ints l, Wi.strs x, Wi.dgs d] : List (List UInt8)).getD (Int.toNat 1) [] = Wi.bytes s from rfl] at hel hc3
            have hdl9 : (List.drop 0 (List.take i.toNat (Wi.bytes s))).length < 1099511627776 := by rw [List.length_drop, List.length_take]; omega
            have he3 : (Wi.getBytes (List.drop 0 (List.take i.toNat (Wi.bytes s)))).2.2 = 3 := by rw [List.drop_zero]; exact Wi.bytes_sh s (by omega) i.toNat (by omega)
            refine reg hF hS (sq rfl (q_move rfl) <|
                sq rfl (q_move rfl) <|
                sq rfl (q_slsl_hi ty28 ty5 hel rfl rfl (by omega)) <|
                sq rfl (q_call fn26 rfl (fun w hS => wgb_ct _ _ w (Sl.mono (hS.le (.inr (by simp))) (Sl.cut hel (by omega)))) (fun _ _ _ h => h)) <|
                sq rfl (q_move rfl) <|
                sq rfl (q_extract rfl rfl) <|
                sq rfl (q_extract rfl rfl) <|
                sq rfl (q_extract rfl rfl) <|
                sq rfl (q_assign rfl) <|
                sq_end) ?_
            clear hF hS; intro a w hF hS
            refine hK17 _ _ ?_
            clear hK17
            refine wp_seq_k ?_; intro K22 hK22
            refine reg hF hS (sq rfl (q_move rfl) <|
                sq rfl (q_nf (q_nei rfl rfl) (he3)) <|
                sq_end) ?_
            clear hF hS; intro a w hF hS
            refine hK22 _ _ ?_
            clear hK22
            refine wp_if hF rfl (fun h => absurd h (by simp)) (fun _ => ?_)
            refine wp_skip ?_
            refine hK14 _ _ ?_
            clear hK14
            refine reg hF hS (sq rfl (q_addi rfl rfl (by omega)) <|
                sq rfl (q_move rfl) <|
                sq_end) ?_
            clear hF hS; intro a w hF hS
            refine ⟨(i + 1), ?_, ?_, hF.sub ⟨rfl, rfl, rfl, rfl, rfl, rfl, rfl, trivial⟩, ?_⟩
            · (try dsimp only); omega
            · (try dsimp only); omega
            · exact hS
          · refine wp_seq_k ?_; intro K23 hK23
            refine reg hF hS (sq rfl (q_eqi rfl rfl) <|
                sq rfl (q_assign rfl) <|
                sq_end) ?_
            clear hF hS; intro a w hF hS
            refine hK23 _ _ ?_
            clear hK23
            refine wp_ifd hF rfl (fun hc8 => ?_) (fun hc8 => ?_)
            · obtain rfl : k = 2 := by omega
              rw [show ([Wi.int n, Wi.bytes s, Wi.ints l, Wi.strs x, Wi.dgs d] : List (List UInt8)).getD (Int.toNat 2) [] = Wi.ints l from rfl] at hel hc3
              have hdl9 : (List.drop 0 (List.take i.toNat (Wi.ints l))).length < 1099511627776 := by rw [List.length_drop, List.length_take]; omega
              have he3 : (Wi.getList Wi.getInt (List.drop 0 (List.take i.toNat (Wi.ints l)))).2.2 = 3 := by rw [List.drop_zero]; exact Wi.ints_sh l (by omega) hrg i.toNat (by omega)
              refine regl ?_
              refine wpl_sq hF hS (sq rfl (q_move rfl) <|
                  sq rfl (q_move rfl) <|
                  sq rfl (q_slsl_hi ty28 ty5 hel rfl rfl (by omega)) <|
                  sq_end) ?_
              clear hF hS; intro a w hF hS
              refine wpl_ef hF hS rfl (ef_call fn28 rfl (fun w hS => wgis_ct _ _ (by first | with_reducible assumption | omega) w (Sl.mono (hS.le (.inr (by simp))) (Sl.cut hel (by omega))))) ?_
              clear hF hS; rintro _ _ _ a w ⟨_, _, rfl, rfl, ⟨v24, z25, rfl, hz26, rfl, rfl⟩⟩ hF hS
              replace hS : St _ [_, _, _, _, _, _, _, _] [] _ := hS
              refine wpl_sq hF hS (sq rfl (q_move rfl) <|
                  sq rfl (q_extract rfl rfl) <|
                  sq rfl (q_extract rfl rfl) <|
                  sq rfl (q_extract rfl rfl) <|
                  sq rfl (q_assign rfl) <|
                  sq_end) ?_
              clear hF hS; intro a w hF hS
              refine wpList_nil ?_
              refine hK17 _ _ ?_
              clear hK17
              refine wp_seq_k ?_; intro K24 hK24
              refine reg hF hS (sq rfl (q_move rfl) <|
                  sq rfl (q_nf (q_nei rfl rfl) (he3)) <|
                  sq_end) ?_
              clear hF hS; intro a w hF hS
              refine hK24 _ _ ?_
              clear hK24
              refine wp_if hF rfl (fun h => absurd h (by simp)) (fun _ => ?_)
              refine wp_skip ?_
              refine hK14 _ _ ?_
              clear hK14
              refine reg hF hS (sq rfl (q_addi rfl rfl (by omega)) <|
                  sq rfl (q_move rfl) <|
                  sq_end) ?_
              clear hF hS; intro a w hF hS
              replace hS := hS.keep ((List.Sublist.refl _).cons _) (List.nil_sublist _)
              refine ⟨(i + 1), ?_, ?_, hF.sub ⟨rfl, rfl, rfl, rfl, rfl, rfl, rfl, trivial⟩, ?_⟩
              · (try dsimp only); omega
              · (try dsimp only); omega
              · exact hS
            · refine wp_seq_k ?_; intro K25 hK25
              refine reg hF hS (sq rfl (q_eqi rfl rfl) <|
                  sq rfl (q_assign rfl) <|
                  sq_end) ?_
              clear hF hS; intro a w hF hS
              refine hK25 _ _ ?_
              clear hK25
              refine wp_ifd hF rfl (fun hc10 => ?_) (fun hc10 => ?_)
              · obtain rfl : k = 3 := by omega
                rw [show ([Wi.int n, Wi.bytes s, Wi.ints l, Wi.strs x, Wi.dgs d] : List (List UInt8)).getD (Int.toNat 3) [] = Wi.strs x from rfl] at hel hc3
                have hdl9 : (List.drop 0 (List.take i.toNat (Wi.strs x))).length < 1099511627776 := by rw [List.length_drop, List.length_take]; omega
                have he3 : (Wi.getList Wi.getBytes (List.drop 0 (List.take i.toNat (Wi.strs x)))).2.2 = 3 := by rw [List.drop_zero]; exact Wi.strs_sh x (by omega) (fun p hp => by have := hxp p hp; omega) i.toNat (by omega)
                refine regl ?_
                refine wpl_sq hF hS (sq rfl (q_move rfl) <|
                    sq rfl (q_move rfl) <|
                    sq rfl (q_slsl_hi ty28 ty5 hel rfl rfl (by omega)) <|
                    sq_end) ?_
                clear hF hS; intro a w hF hS
                refine wpl_ef hF hS rfl (ef_call fn31 rfl (fun w hS => wgss_ct _ _ (by first | with_reducible assumption | omega) w (Sl.mono (hS.le (.inr (by simp))) (Sl.cut hel (by omega))))) ?_
                clear hF hS; rintro _ _ _ a w ⟨_, _, rfl, rfl, ⟨v28, z29, rfl, hz30, rfl, rfl⟩⟩ hF hS
                replace hS : St _ [_, _, _, _, _, _, _, _] [] _ := hS
                refine wpl_sq hF hS (sq rfl (q_move rfl) <|
                    sq rfl (q_extract rfl rfl) <|
                    sq rfl (q_extract rfl rfl) <|
                    sq rfl (q_extract rfl rfl) <|
                    sq rfl (q_assign rfl) <|
                    sq_end) ?_
                clear hF hS; intro a w hF hS
                refine wpList_nil ?_
                refine hK17 _ _ ?_
                clear hK17
                refine wp_seq_k ?_; intro K26 hK26
                refine reg hF hS (sq rfl (q_move rfl) <|
                    sq rfl (q_nf (q_nei rfl rfl) (he3)) <|
                    sq_end) ?_
                clear hF hS; intro a w hF hS
                refine hK26 _ _ ?_
                clear hK26
                refine wp_if hF rfl (fun h => absurd h (by simp)) (fun _ => ?_)
                refine wp_skip ?_
                refine hK14 _ _ ?_
                clear hK14
                refine reg hF hS (sq rfl (q_addi rfl rfl (by omega)) <|
                    sq rfl (q_move rfl) <|
                    sq_end) ?_
                clear hF hS; intro a w hF hS
                replace hS := hS.keep ((List.Sublist.refl _).cons _) (List.nil_sublist _)
                refine ⟨(i + 1), ?_, ?_, hF.sub ⟨rfl, rfl, rfl, rfl, rfl, rfl, rfl, trivial⟩, ?_⟩
                · (try dsimp only); omega
                · (try dsimp only); omega
                · exact hS
              · obtain rfl : k = 4 := by omega
                rw [show ([Wi.int n, Wi.bytes s, Wi.ints l, Wi.strs x, Wi.dgs d] : List (List UInt8)).getD (Int.toNat 4) [] = Wi.dgs d from rfl] at hel hc3
                have hdl9 : (List.drop 0 (List.take i.toNat (Wi.dgs d))).length < 1099511627776 := by rw [List.length_drop, List.length_take]; omega
                have he3 : (Wi.getDigs (List.drop 0 (List.take i.toNat (Wi.dgs d)))).2.2 = 3 := by rw [List.drop_zero]; exact Wi.digs_short d (by omega) h16 i.toNat (by omega)
                refine regl ?_
                refine wpl_sq hF hS (sq rfl (q_move rfl) <|
                    sq rfl (q_move rfl) <|
                    sq rfl (q_slsl_hi ty28 ty5 hel rfl rfl (by omega)) <|
                    sq_end) ?_
                clear hF hS; intro a w hF hS
                refine wpl_ef hF hS rfl (ef_call fn34 rfl (fun w hS => wgds_ct _ _ (by first | with_reducible assumption | omega) w (Sl.mono (hS.le (.inr (by simp))) (Sl.cut hel (by omega))))) ?_
                clear hF hS; rintro _ _ _ a w ⟨_, _, rfl, rfl, ⟨v32, z33, rfl, hz34, rfl, rfl⟩⟩ hF hS
                replace hS : St _ [_, _, _, _, _, _, _, _] [] _ := hS
                refine wpl_sq hF hS (sq rfl (q_move rfl) <|
                    sq rfl (q_extract rfl rfl) <|
                    sq rfl (q_extract rfl rfl) <|
                    sq rfl (q_extract rfl rfl) <|
                    sq rfl (q_assign rfl) <|
                    sq_end) ?_
                clear hF hS; intro a w hF hS
                refine wpList_nil ?_
                refine hK17 _ _ ?_
                clear hK17
                refine wp_seq_k ?_; intro K27 hK27
                refine reg hF hS (sq rfl (q_move rfl) <|
                    sq rfl (q_nf (q_nei rfl rfl) (he3)) <|
                    sq_end) ?_
                clear hF hS; intro a w hF hS
                refine hK27 _ _ ?_
                clear hK27
                refine wp_if hF rfl (fun h => absurd h (by simp)) (fun _ => ?_)
                refine wp_skip ?_
                refine hK14 _ _ ?_
                clear hK14
                refine reg hF hS (sq rfl (q_addi rfl rfl (by omega)) <|
                    sq rfl (q_move rfl) <|
                    sq_end) ?_
                clear hF hS; intro a w hF hS
                replace hS := hS.keep ((List.Sublist.refl _).cons _) (List.nil_sublist _)
                refine ⟨(i + 1), ?_, ?_, hF.sub ⟨rfl, rfl, rfl, rfl, rfl, rfl, rfl, trivial⟩, ?_⟩
                · (try dsimp only); omega
                · (try dsimp only); omega
                · exact hS
      · refine wp_exit ?_
        refine hK9 _ _ ?_
        clear hK9
        refine reg hF hS (sq rfl (q_addi rfl rfl (by omega)) <|
            sq rfl (q_move rfl) <|
            sq_end) ?_
        clear hF hS; intro a w hF hS
        refine ⟨(k + 1), ?_, ?_, hF.sub ⟨rfl, rfl, rfl, trivial⟩, ?_⟩
        · (try dsimp only); omega
        · (try dsimp only); omega
        · exact hS
    · refine wp_exit ?_
      refine hK5 _ _ ?_
      clear hK5
      refine wp_seq_k ?_; intro K28 hK28
      refine reg hF hS (sq rfl (q_call fn12 rfl (fun w hS => sanity_ct w ) (fun _ _ _ h => h)) <|
          sq rfl (q_assign rfl) <|
          sq_end) ?_
      clear hF hS; intro a w hF hS
      refine hK28 _ _ ?_
      clear hK28
      refine wp_ret ?_
      exact fn_ret (rs := [.tmp 10]) rfl hF hS (vs := [_]) ⟨rfl, trivial⟩ (List.nil_sublist _) (List.nil_sublist _) (rfl)
end Go.Proofs.Ytcolgcdnpfpcdaa
