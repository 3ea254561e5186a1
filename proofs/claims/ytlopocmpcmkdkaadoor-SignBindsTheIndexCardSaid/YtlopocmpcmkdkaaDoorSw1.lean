/- A text of a proof over this seat: walks over the program's functions and the plain laws that they need. -/
import Derived.Test.YtlopocmpcmkdkaaDoorSh16
import Derived.Test.YtlopocmpcmkdkaaDoorShW
import Derived.Test.YtlopocmpcmkdkaaDoorFwB
set_option linter.all false
namespace Go.Proofs.YtlopocmpcmkdkaaDoor
open Go.Fw
theorem ty25 : Tf Tryd.prog 25 (.slice 3) 1 24 (Value.slice none 0 0) := ⟨Tryd.underlying25, by kernel_rfl⟩

set_option maxRecDepth 4000 in
set_option maxHeartbeats 2000000 in
theorem same_ct (v1 v2 : Value) (xa xb : List UInt8) (w : World) (hb1 : Sl encB (ph w) v1 xa) (hb2 : Sl encB (ph w) v2 xb) : Ct Tryd.prog 58 [v1, v2] w (fun r _ _ => r = .bool (decide (xa = xb))) := by
  refine fn_enter Tryd.func58 rfl Tryd.ntmps58 (Nat.le_of_ble_eq_true rfl) fun a hF hS => ?_
  have hla := hb1.1
  have hlb := hb2.1
  refine wp_seq_k ?_; intro K1 hK1
  refine reg hF hS (sq rfl (q_assign rfl) <|
      sq_end) ?_
  clear hF hS; intro a w hF hS
  refine hK1 _ _ ?_
  clear hK1
  refine wp_seq_k ?_; intro K2 hK2
  refine wp_seq_k ?_; intro K3 hK3
  refine reg hF hS (sq rfl (q_move rfl) <|
      sq rfl (q_len_sl ty52 hb1 rfl) <|
      sq rfl (q_move rfl) <|
      sq rfl (q_len_sl ty52 hb2 rfl) <|
      sq rfl (q_nei rfl rfl) <|
      sq_end) ?_
  clear hF hS; intro a w hF hS
  refine hK3 _ _ ?_
  clear hK3
  refine wp_ifn hF rfl (fun hc1 => ?_) (fun hc1 => ?_)
  · refine wp_seq_k ?_; intro K4 hK4
    refine reg hF hS (sq rfl (q_assign rfl) <|
        sq_end) ?_
    clear hF hS; intro a w hF hS
    refine hK4 _ _ ?_
    clear hK4
    refine wp_ret ?_
    exact fn_ret (rs := [.tmp 4]) rfl hF hS (vs := [_]) ⟨rfl, trivial⟩ (List.nil_sublist _) (List.nil_sublist _) (Ls.same_len hc1)
  · refine wp_skip ?_
    refine hK2 _ _ ?_
    clear hK2
    refine wp_seq_k ?_; intro K5 hK5
    refine wp_seq_k ?_; intro K6 hK6
    refine reg hF hS (sq rfl (q_assign rfl) <|
        sq_end) ?_
    clear hF hS; intro a w hF hS
    refine hK6 _ _ ?_
    clear hK6
    refine wp_block ?_
    obtain ⟨hs0, hhs0, hS⟩ : ∃ h, h = _ ∧ St _ _ h _ := ⟨_, rfl, hS⟩
    refine wp_loopx (γ := Int) (0) (fun (i : Int) => [(5, vi i)]) [(0, _), (1, _)] (fun (i : Int) => hs0) (fun (i : Int) => 0 ≤ i ∧ i ≤ xa.length ∧ xa.take i.toNat = xb.take i.toNat) (fun (i : Int) => (xa.length - i).toNat) (hF.sub ⟨rfl, rfl, rfl, trivial⟩) (by subst hhs0; exact hS) (by exact ⟨Int.le_refl _, by omega, rfl⟩) ?_
    clear hF hS; rintro i a w hfact hF hS
    subst hhs0; (try dsimp only at hfact); (try dsimp only at hF); (try dsimp only at hS)
    obtain ⟨hi0, hi1, htk⟩ := hfact
    replace hS : St _ [] [] _ := hS
    refine wp_seq_k ?_; intro K7 hK7
    refine wp_seq_k ?_; intro K8 hK8
    refine reg hF hS (sq rfl (q_move rfl) <|
        sq rfl (q_move rfl) <|
        sq rfl (q_len_sl ty52 hb1 rfl) <|
        sq rfl (q_lti rfl rfl) <|
        sq_end) ?_
    clear hF hS; intro a w hF hS
    refine hK8 _ _ ?_
    clear hK8
    refine wp_ifd hF rfl (fun hc2 => ?_) (fun hc2 => ?_)
    · have hi2 : i < xb.length := by omega
      refine wp_skip ?_
      refine hK7 _ _ ?_
      clear hK7
      refine wp_seq_k ?_; intro K9 hK9
      refine wp_block ?_
      refine wp_seq_k ?_; intro K10 hK10
      refine regd mixed (by kernel_rfl) hF hS (sq rfl (q_move rfl) <|
          sq rfl (q_move rfl) <|
          sq rfl (q_idx_sl ty52 ty5 hb1 rfl rfl (by omega)) <|
          sq rfl (q_ld_B ty5 hb1 zin0 rfl rfl (by omega)) <|
          sq rfl (q_move rfl) <|
          sq rfl (q_move rfl) <|
          sq rfl (q_idx_sl ty52 ty5 hb2 rfl rfl (by omega)) <|
          sq rfl (q_ld_B ty5 hb2 zin0 rfl rfl (by omega)) <|
          sq rfl (q_neb rfl rfl) <|
          sq_end) ?_
      clear hF hS; intro a w hF hS
      refine hK10 _ _ ?_
      clear hK10
      refine wp_ifn hF rfl (fun hc3 => ?_) (fun hc3 => ?_)
      · refine wp_seq_k ?_; intro K11 hK11
        refine reg hF hS (sq rfl (q_assign rfl) <|
            sq_end) ?_
        clear hF hS; intro a w hF hS
        refine hK11 _ _ ?_
        clear hK11
        refine wp_ret ?_
        exact fn_ret (rs := [.tmp 4]) rfl hF hS (vs := [_]) ⟨rfl, trivial⟩ (List.nil_sublist _) (List.nil_sublist _) (Ls.same_ne 0 hc3)
      · refine wp_skip ?_
        refine hK9 _ _ ?_
        clear hK9
        refine reg hF hS (sq rfl (q_move rfl) <|
            sq rfl (q_addi rfl rfl (by omega)) <|
            sq rfl (q_assign rfl) <|
            sq_end) ?_
        clear hF hS; intro a w hF hS
        refine ⟨(i + 1), ?_, ?_, hF.sub ⟨rfl, rfl, rfl, trivial⟩, ?_⟩
        · (try dsimp only); omega
        · refine ⟨by omega, by omega, Ls.same_step 0 hi0 (by omega) hc1 hc3 htk⟩
        · exact hS
    · refine wp_exit ?_
      refine hK5 _ _ ?_
      clear hK5
      refine wp_seq_k ?_; intro K12 hK12
      refine reg hF hS (sq rfl (q_assign rfl) <|
          sq_end) ?_
      clear hF hS; intro a w hF hS
      refine hK12 _ _ ?_
      clear hK12
      refine wp_ret ?_
      exact fn_ret (rs := [.tmp 4]) rfl hF hS (vs := [_]) ⟨rfl, trivial⟩ (List.nil_sublist _) (List.nil_sublist _) (Ls.same_eq hc1 hc2 htk)

attribute [local irreducible] Wi.int Wi.bytes Wi.ints Wi.strs Wi.dgs Ls.encT

theorem ints_def (l : List Int) : Wi.int (l.length : Int) ++ l.flatMap Wi.int = Wi.ints l := by unfold Wi.ints; rfl

set_option maxRecDepth 4000 in
set_option maxHeartbeats 2000000 in
theorem wints_ct (v : Value) (l : List Int) (hl : l.length < 1048576) (w : World) (hb : Sl encI (ph w) v l) : Ct Tryd.prog 60 [v] w (fun v zs hs => zs = [] ∧ hs = [.row v 5 1 (Wi.ints l).length ((Wi.ints l).map vb)]) := by
  refine fn_enter Tryd.func60 rfl Tryd.ntmps60 (Nat.le_of_ble_eq_true rfl) fun a hF hS => ?_
  have hil := Wi.int_len9 l.length
  have hbound : ∀ i, (Ls.encT Wi.int l i).length ≤ 9 + l.length * 9 := Ls.encT_len Wi.int l 9 (fun x _ => (Wi.int_len9 x).2)
  refine wp_seq_k ?_; intro K1 hK1
  refine reg hF hS (sq rfl (q_assign rfl) <|
      sq_end) ?_
  clear hF hS; intro a w hF hS
  refine hK1 _ _ ?_
  clear hK1
  refine wp_seq_k ?_; intro K2 hK2
  refine regl ?_
  refine wpl_sq hF hS (sq rfl (q_move rfl) <|
      sq rfl (q_len_sl ty25 hb rfl) <|
      sq_end) ?_
  clear hF hS; intro a w hF hS
  refine wpl_ef hF hS rfl (ef_call fn26 rfl (fun w hS => wint_ct _ w )) ?_
  clear hF hS; rintro v1 _ _ a w ⟨_, _, rfl, rfl, rfl, rfl⟩ hF hS
  replace hS : St _ [] [_] _ := hS
  refine wpl_sq hF hS (sq rfl (q_assign rfl) <|
      sq_end) ?_
  clear hF hS; intro a w hF hS
  refine wpList_nil ?_
  refine hK2 _ _ ?_
  clear hK2
  refine wp_seq_k ?_; intro K3 hK3
  refine wp_seq_k ?_; intro K4 hK4
  refine reg hF hS (sq rfl (q_move rfl) <|
      sq rfl (q_len_sl ty25 hb rfl) <|
      sq rfl (q_move rfl) <|
      sq_end) ?_
  clear hF hS; intro a w hF hS
  refine hK4 _ _ ?_
  clear hK4
  refine wp_block ?_
  obtain ⟨hs0, hhs0, hS⟩ : ∃ h, h = _ ∧ St _ _ h _ := ⟨_, rfl, hS⟩
  refine wp_loopx (γ := Value × Int) (v1, 0) (fun (gg : Value × Int) => match gg with | (u, i) => [(3, u), (11, vi i)]) [(9, _), (10, _)] (fun (gg : Value × Int) => match gg with | (u, i) => (hs0.set 0 (.row u 5 1 (Ls.encT Wi.int l i.toNat).length ((Ls.encT Wi.int l i.toNat).map vb)))) (fun (gg : Value × Int) => match gg with | (u, i) => 0 ≤ i ∧ i ≤ l.length) (fun (gg : Value × Int) => match gg with | (u, i) => (l.length - i).toNat) (hF.sub ⟨rfl, rfl, rfl, rfl, trivial⟩) (by subst hhs0; dsimp only; rw [show (0 : Int).toNat = 0 from rfl, Ls.encT_0]; exact hS) (by exact ⟨Int.le_refl _, by omega⟩) ?_
  clear hF hS; rintro ⟨u, i⟩ a w hfact hF hS
  subst hhs0; (try dsimp only at hfact); (try dsimp only at hF); (try dsimp only at hS)
  obtain ⟨hi0, hi1⟩ := hfact
  replace hS : St _ [] [_] _ := hS
  have htl := hbound i.toNat
  refine wp_seq_k ?_; intro K5 hK5
  refine reg hF hS (sq rfl (q_lti rfl rfl) <|
      sq_end) ?_
  clear hF hS; intro a w hF hS
  refine hK5 _ _ ?_
  clear hK5
  refine wp_seq_k ?_; intro K6 hK6
  refine wp_ifd hF rfl (fun hc1 => ?_) (fun hc1 => ?_)
  · have hxl := Wi.int_len9 (l.getD i.toNat 0)
    have hxr := (hb.rep (i := i.toNat) (x := l.getD i.toNat 0) (Ls.getD_some 0 (by omega))).2
    refine wp_skip ?_
    refine hK6 _ _ ?_
    clear hK6
    refine wp_seq_k ?_; intro K7 hK7
    refine wp_block ?_
    refine wp_seq_k ?_; intro K8 hK8
    refine reg hF hS (sq rfl (q_idx_sl ty25 ty3 hb rfl rfl (by omega)) <|
        sq rfl (q_ld_I ty3 hb zin0 rfl rfl (by omega)) <|
        sq rfl (q_assign rfl) <|
        sq_end) ?_
    clear hF hS; intro a w hF hS
    refine hK8 _ _ ?_
    clear hK8
    refine regl ?_
    refine wpl_sq hF hS (sq rfl (q_move rfl) <|
        sq rfl (q_move rfl) <|
        sq_end) ?_
    clear hF hS; intro a w hF hS
    refine wpl_ef hF hS rfl (ef_call fn26 rfl (fun w hS => wint_ct _ w )) ?_
    clear hF hS; rintro v3 _ _ a w ⟨_, _, rfl, rfl, rfl, rfl⟩ hF hS
    replace hS : St _ [] [_, _] _ := hS
    refine wpl_ef hF hS rfl (ef_append ty52 ty5 1 rfl rfl rfl (src_row ty52 (k := 0) rfl (by first | ((repeat first | ((with_reducible refine oc_map ?_); intro _; rfl) | (with_reducible refine oc_app ?_ ?_) | ((with_reducible refine oc_cons ?_ ?_); rfl) | (with_reducible exact oc_nil) | ((with_reducible refine oc_rep ?_); rfl)); done) | (simp [Value.oneCell']; done) | (simp; decide))) (by first | omega | (rw [List.length_map]; omega) | (simp; omega) | (simp [*]; done) | decide | (simp [*]; omega)) rfl (by decide)) ?_
    clear hF hS; rintro v5 _ _ a w ⟨rfl, rfl⟩ hF hS
    replace hS : St _ [] [_, _] _ := hS
    refine wpl_sq hF hS (sq rfl (q_assign rfl) <|
        sq_end) ?_
    clear hF hS; intro a w hF hS
    refine wpList_nil ?_
    refine hK7 _ _ ?_
    clear hK7
    refine reg hF hS (sq rfl (q_addi rfl rfl (by omega)) <|
        sq rfl (q_move rfl) <|
        sq_end) ?_
    clear hF hS; intro a w hF hS
    replace hS := hS.keep (List.nil_sublist _) ((List.Sublist.refl _).cons _)
    refine ⟨(v5, i + 1), ?_, ?_, hF.sub ⟨rfl, rfl, rfl, rfl, trivial⟩, ?_⟩
    · (try dsimp only); omega
    · (try dsimp only); omega
    · rw [← List.map_append, ← List.length_append, Ls.encT_step Wi.int 0 l i.toNat (by omega), show i.toNat + 1 = (i + 1).toNat by omega] at hS
      exact hS
  · obtain rfl : i = l.length := by omega
    rw [Int.toNat_natCast, Ls.encT_all, ints_def] at hS
    refine wp_exit ?_
    refine hK3 _ _ ?_
    clear hK3
    refine wp_seq_k ?_; intro K9 hK9
    refine reg hF hS (sq rfl (q_move rfl) <|
        sq rfl (q_assign rfl) <|
        sq_end) ?_
    clear hF hS; intro a w hF hS
    refine hK9 _ _ ?_
    clear hK9
    refine wp_ret ?_
    exact fn_ret (rs := [.tmp 2]) rfl hF hS (vs := [_]) ⟨rfl, trivial⟩ (List.nil_sublist _) (List.Sublist.refl _) ⟨rfl, rfl⟩

set_option maxRecDepth 4000 in
set_option maxHeartbeats 2000000 in
theorem rints_ct (v : Value) (l : List Int) (hl : l.length < 1048576) (w : World) (hb : Sl encI (ph w) v l) : Ct Tryd.prog 63 [v] w (fun v zs hs => zs = [] ∧ hs = [.row v 5 1 (Wi.ints l).length ((Wi.ints l).map vb)]) := by
  refine fn_enter Tryd.func63 rfl Tryd.ntmps63 (Nat.le_of_ble_eq_true rfl) fun a hF hS => ?_
  have hil := Wi.int_len9 l.length
  have hbound : ∀ i, (Ls.encT Wi.int l i).length ≤ 9 + l.length * 9 := Ls.encT_len Wi.int l 9 (fun x _ => (Wi.int_len9 x).2)
  refine wp_seq_k ?_; intro K1 hK1
  refine reg hF hS (sq rfl (q_assign rfl) <|
      sq_end) ?_
  clear hF hS; intro a w hF hS
  refine hK1 _ _ ?_
  clear hK1
  refine wp_seq_k ?_; intro K2 hK2
  refine regl ?_
  refine wpl_sq hF hS (sq rfl (q_move rfl) <|
      sq rfl (q_len_sl ty25 hb rfl) <|
      sq_end) ?_
  clear hF hS; intro a w hF hS
  refine wpl_ef hF hS rfl (ef_call fn30 rfl (fun w hS => rint_ct _ (by omega) w )) ?_
  clear hF hS; rintro v1 _ _ a w ⟨_, _, rfl, rfl, rfl, rfl⟩ hF hS
  replace hS : St _ [] [_] _ := hS
  refine wpl_sq hF hS (sq rfl (q_assign rfl) <|
      sq_end) ?_
  clear hF hS; intro a w hF hS
  refine wpList_nil ?_
  refine hK2 _ _ ?_
  clear hK2
  refine wp_seq_k ?_; intro K3 hK3
  refine wp_seq_k ?_; intro K4 hK4
  refine reg hF hS (sq rfl (q_assign rfl) <|
      sq_end) ?_
  clear hF hS; intro a w hF hS
  refine hK4 _ _ ?_
  clear hK4
  refine wp_block ?_
  obtain ⟨hs0, hhs0, hS⟩ : ∃ h, h = _ ∧ St _ _ h _ := ⟨_, rfl, hS⟩
  refine wp_loopx (γ := Value × Int) (v1, 0) (fun (gg : Value × Int) => match gg with | (u, i) => [(3, u), (4, vi i)]) [(0, _)] (fun (gg : Value × Int) => match gg with | (u, i) => (hs0.set 0 (.row u 5 1 (Ls.encT Wi.int l i.toNat).length ((Ls.encT Wi.int l i.toNat).map vb)))) (fun (gg : Value × Int) => match gg with | (u, i) => 0 ≤ i ∧ i ≤ l.length) (fun (gg : Value × Int) => match gg with | (u, i) => (l.length - i).toNat) (hF.sub ⟨rfl, rfl, rfl, trivial⟩) (by subst hhs0; dsimp only; rw [show (0 : Int).toNat = 0 from rfl, Ls.encT_0]; exact hS) (by exact ⟨Int.le_refl _, by omega⟩) ?_
  clear hF hS; rintro ⟨u, i⟩ a w hfact hF hS
  subst hhs0; (try dsimp only at hfact); (try dsimp only at hF); (try dsimp only at hS)
  obtain ⟨hi0, hi1⟩ := hfact
  replace hS : St _ [] [_] _ := hS
  have htl := hbound i.toNat
  refine wp_seq_k ?_; intro K5 hK5
  refine wp_seq_k ?_; intro K6 hK6
  refine reg hF hS (sq rfl (q_move rfl) <|
      sq rfl (q_move rfl) <|
      sq rfl (q_len_sl ty25 hb rfl) <|
      sq rfl (q_lti rfl rfl) <|
      sq_end) ?_
  clear hF hS; intro a w hF hS
  refine hK6 _ _ ?_
  clear hK6
  refine wp_ifd hF rfl (fun hc1 => ?_) (fun hc1 => ?_)
  · have hxl := Wi.int_len9 (l.getD i.toNat 0)
    have hxr := (hb.rep (i := i.toNat) (x := l.getD i.toNat 0) (Ls.getD_some 0 (by omega))).2
    refine wp_skip ?_
    refine hK5 _ _ ?_
    clear hK5
    refine wp_seq_k ?_; intro K7 hK7
    refine wp_block ?_
    refine regl ?_
    refine wpl_sq hF hS (sq rfl (q_move rfl) <|
        sq rfl (q_move rfl) <|
        sq rfl (q_move rfl) <|
        sq rfl (q_idx_sl ty25 ty3 hb rfl rfl (by omega)) <|
        sq rfl (q_ld_I ty3 hb zin0 rfl rfl (by omega)) <|
        sq_end) ?_
    clear hF hS; intro a w hF hS
    refine wpl_ef hF hS rfl (ef_call fn30 rfl (fun w hS => rint_ct _ (by omega) w )) ?_
    clear hF hS; rintro v3 _ _ a w ⟨_, _, rfl, rfl, rfl, rfl⟩ hF hS
    replace hS : St _ [] [_, _] _ := hS
    refine wpl_ef hF hS rfl (ef_append ty52 ty5 1 rfl rfl rfl (src_row ty52 (k := 0) rfl (by first | ((repeat first | ((with_reducible refine oc_map ?_); intro _; rfl) | (with_reducible refine oc_app ?_ ?_) | ((with_reducible refine oc_cons ?_ ?_); rfl) | (with_reducible exact oc_nil) | ((with_reducible refine oc_rep ?_); rfl)); done) | (simp [Value.oneCell']; done) | (simp; decide))) (by first | omega | (rw [List.length_map]; omega) | (simp; omega) | (simp [*]; done) | decide | (simp [*]; omega)) rfl (by decide)) ?_
    clear hF hS; rintro v5 _ _ a w ⟨rfl, rfl⟩ hF hS
    replace hS : St _ [] [_, _] _ := hS
    refine wpl_sq hF hS (sq rfl (q_assign rfl) <|
        sq_end) ?_
    clear hF hS; intro a w hF hS
    refine wpList_nil ?_
    refine hK7 _ _ ?_
    clear hK7
    refine reg hF hS (sq rfl (q_move rfl) <|
        sq rfl (q_addi rfl rfl (by omega)) <|
        sq rfl (q_assign rfl) <|
        sq_end) ?_
    clear hF hS; intro a w hF hS
    replace hS := hS.keep (List.nil_sublist _) ((List.Sublist.refl _).cons _)
    refine ⟨(v5, i + 1), ?_, ?_, hF.sub ⟨rfl, rfl, rfl, trivial⟩, ?_⟩
    · (try dsimp only); omega
    · (try dsimp only); omega
    · rw [← List.map_append, ← List.length_append, Ls.encT_step Wi.int 0 l i.toNat (by omega), show i.toNat + 1 = (i + 1).toNat by omega] at hS
      exact hS
  · obtain rfl : i = l.length := by omega
    rw [Int.toNat_natCast, Ls.encT_all, ints_def] at hS
    refine wp_exit ?_
    refine hK3 _ _ ?_
    clear hK3
    refine wp_seq_k ?_; intro K8 hK8
    refine reg hF hS (sq rfl (q_move rfl) <|
        sq rfl (q_assign rfl) <|
        sq_end) ?_
    clear hF hS; intro a w hF hS
    refine hK8 _ _ ?_
    clear hK8
    refine wp_ret ?_
    exact fn_ret (rs := [.tmp 2]) rfl hF hS (vs := [_]) ⟨rfl, trivial⟩ (List.nil_sublist _) (List.Sublist.refl _) ⟨rfl, rfl⟩
end Go.Proofs.YtlopocmpcmkdkaaDoor
