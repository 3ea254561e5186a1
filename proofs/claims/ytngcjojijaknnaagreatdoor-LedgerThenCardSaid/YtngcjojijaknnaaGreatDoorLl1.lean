/- A text of a proof over this seat: walks over the program's functions and the plain laws that they need. -/
import Derived.Test.YtngcjojijaknnaaGreatDoorLj13
import Derived.Test.YtngcjojijaknnaaGreatDoorLgA
import Derived.Test.YtngcjojijaknnaaGreatDoorLlay2
import Derived.Test.YtngcjojijaknnaaGreatDoorFwB
set_option linter.all false
namespace Go.Proofs.YtngcjojijaknnaaGreatDoor
open Go.Fw
theorem ty24 : Tf Tryz.prog 24 (.struct #[⟨ "Tick", 3, 0, false, "", "", 0⟩, ⟨ "Key", 9, 1, false, "", "", 8⟩, ⟨ "Value", 9, 2, false, "", "", 24⟩]) 3 40 (.agg ([Value.int .i64 0] ++ [Value.string ⟨(List.nil : List UInt8).toArray⟩, Value.string ⟨(List.nil : List UInt8).toArray⟩]).toArray) := ⟨Tryz.underlying24, by kernel_rfl⟩
theorem ty26 : Tf Tryz.prog 26 (.slice 24) 1 24 (Value.slice none 0 0) := ⟨Tryz.underlying26, by kernel_rfl⟩
theorem ty29 : Tf Tryz.prog 29 (.slice 25) 1 24 (Value.slice none 0 0) := ⟨Tryz.underlying29, by kernel_rfl⟩
theorem fn97 : FnOk Tryz.prog 97 := ⟨_, Tryz.func97, rfl, by kernel_rfl⟩

attribute [local irreducible] Wi.int Wi.bytes Wi.getInt Wi.getBytes

set_option maxRecDepth 4000 in
set_option maxHeartbeats 2000000 in
theorem fval_ct (f : Lg.Fct) (hf : Lg.FcOk f) (w : World) : Ct Tryz.prog 13 [.agg [vi f.tk, vs f.ky, vs f.vl].toArray] w (fun r _ _ => r = vi (Lg.valid f)) := by
 refine fn_enter Tryz.func13 rfl Tryz.ntmps13 (Nat.le_of_ble_eq_true rfl) fun a hF hS => ?_
 have hf1 := hf.1
 have hf2 := hf.2.1
 have hf3 := hf.2.2
 refine wp_seq_k ?_; intro K1 hK1
 refine regl ?_
 refine wpl_ef hF hS rfl (ef_boxA rfl) ?_
 clear hF hS; rintro _ _ _ a w ⟨b1, rfl, rfl, rfl⟩ hF hS
 refine wpl_sq hF hS (sq rfl (q_assign rfl) <|
   sq_end) ?_
 clear hF hS; intro a w hF hS
 refine wpList_nil ?_
 refine hK1 _ _ ?_
 clear hK1
 refine wp_seq_k ?_; intro K2 hK2
 refine wp_block ?_
 refine wp_seq_k ?_; intro K3 hK3
 refine regl ?_
 refine wpl_sq hF hS (sq rfl (q_fieldAddr ty24 rfl rfl (s' := 0) kQ) <|
   sq rfl (q_ld_blk1 ty3 0 rfl rfl rfl rfl) <|
   sq rfl (q_lti rfl rfl) <|
   sq rfl (q_move rfl) <|
   sq_end) ?_
 clear hF hS; intro a w hF hS
 refine wpl_or 3 7 3 hF hS rfl rfl rfl rfl rfl (fun hg => have hg := (by first | exact of_decide_eq_false hg | exact hg); sq_go 7 rfl rfl rfl (q_fieldAddr ty24 rfl rfl (s' := 0) kQ) <|
   sq_go 7 rfl rfl rfl (q_ld_blk1 ty3 0 rfl rfl rfl rfl) <|
   sq_go 7 rfl rfl rfl (q_gti rfl rfl) <|
   sq_end) rfl rfl ?_
 clear hF hS; intro a w hF hS
 refine wpl_sq hF hS (sq rfl (q_move rfl) <|
   sq_end) ?_
 clear hF hS; intro a w hF hS
 refine wpl_or 8 12 3 hF hS rfl rfl rfl rfl rfl (fun hg => have hg := hg; sq_go 12 rfl rfl rfl (q_fieldAddr ty24 rfl rfl (s' := 0) kQ) <|
   sq_go 12 rfl rfl rfl (q_ld_blk1 ty9 0 rfl rfl rfl rfl) <|
   sq_go 12 rfl rfl rfl (q_eqs (q := []) rfl rfl) <|
   sq_end) rfl rfl ?_
 clear hF hS; intro a w hF hS
 refine wpl_sq hF hS (sq rfl (q_assign rfl) <|
   sq_end) ?_
 clear hF hS; intro a w hF hS
 refine wpList_nil ?_
 refine hK3 _ _ ?_
 clear hK3
 refine wp_if hF rfl (fun hc1 => ?_) (fun hc1 => ?_)
 ·(try simp only [Bool.or_eq_true, Bool.and_eq_true, Bool.or_eq_false_iff, Bool.and_eq_false_iff, decide_eq_true_eq, decide_eq_false_iff_not, Bool.not_eq_true', Bool.not_eq_false'] at hc1)
  refine wp_seq_k ?_; intro K4 hK4
  refine reg hF hS (sq rfl (q_assign rfl) <|
    sq_end) ?_
  clear hF hS; intro a w hF hS
  refine hK4 _ _ ?_
  clear hK4
  refine wp_ret ?_
  exact fn_ret (rs := [.tmp 2]) rfl hF hS (vs := [_]) ⟨rfl, trivial⟩ zQ zQ (by rw [Lg.valid_1 hc1])
 ·(try simp only [Bool.or_eq_true, Bool.and_eq_true, Bool.or_eq_false_iff, Bool.and_eq_false_iff, decide_eq_true_eq, decide_eq_false_iff_not, Bool.not_eq_true', Bool.not_eq_false'] at hc1)
  refine wp_seq_k ?_; intro K5 hK5
  refine regl ?_
  refine wpl_sq hF hS (sq rfl (q_fieldAddr ty24 rfl rfl (s' := 0) kQ) <|
    sq rfl (q_ld_blk1 ty9 0 rfl rfl rfl rfl) <|
    sq rfl (q_len_s ty9 rfl) <|
    sq rfl (q_gti rfl rfl) <|
    sq rfl (q_move rfl) <|
    sq_end) ?_
  clear hF hS; intro a w hF hS
  refine wpl_or 4 22 4 hF hS rfl rfl rfl rfl rfl (fun hg => have hg := (by first | exact of_decide_eq_false hg | exact hg); sq_go 22 rfl rfl rfl (q_fieldAddr ty24 rfl rfl (s' := 0) kQ) <|
    sq_go 22 rfl rfl rfl (q_ld_blk1 ty9 0 rfl rfl rfl rfl) <|
    sq_go 22 rfl rfl rfl (q_len_s ty9 rfl) <|
    sq_go 22 rfl rfl rfl (q_gti rfl rfl) <|
    sq_end) rfl rfl ?_
  clear hF hS; intro a w hF hS
  refine wpl_sq hF hS (sq rfl (q_assign rfl) <|
    sq_end) ?_
  clear hF hS; intro a w hF hS
  refine wpList_nil ?_
  refine hK5 _ _ ?_
  clear hK5
  refine wp_if hF rfl (fun hc2 => ?_) (fun hc2 => ?_)
  ·(try simp only [Bool.or_eq_true, Bool.and_eq_true, Bool.or_eq_false_iff, Bool.and_eq_false_iff, decide_eq_true_eq, decide_eq_false_iff_not, Bool.not_eq_true', Bool.not_eq_false'] at hc2)
   refine wp_seq_k ?_; intro K6 hK6
   refine reg hF hS (sq rfl (q_assign rfl) <|
     sq_end) ?_
   clear hF hS; intro a w hF hS
   refine hK6 _ _ ?_
   clear hK6
   refine wp_ret ?_
   exact fn_ret (rs := [.tmp 2]) rfl hF hS (vs := [_]) ⟨rfl, trivial⟩ zQ zQ (by rw [Lg.valid_2 (Lg.vn1 hc1) (by omega)])
  ·(try simp only [Bool.or_eq_true, Bool.and_eq_true, Bool.or_eq_false_iff, Bool.and_eq_false_iff, decide_eq_true_eq, decide_eq_false_iff_not, Bool.not_eq_true', Bool.not_eq_false'] at hc2)
   refine wp_skip ?_
   refine hK2 _ _ ?_
   clear hK2
   refine wp_seq_k ?_; intro K7 hK7
   refine reg hF hS (sq rfl (q_assign rfl) <|
     sq_end) ?_
   clear hF hS; intro a w hF hS
   refine hK7 _ _ ?_
   clear hK7
   refine wp_ret ?_
   exact fn_ret (rs := [.tmp 2]) rfl hF hS (vs := [_]) ⟨rfl, trivial⟩ zQ zQ (by rw [Lg.valid_3 (Lg.vn1 hc1) (by omega)])

set_option maxRecDepth 4000 in
set_option maxHeartbeats 2000000 in
theorem samef_ct (v1 v2 : Value) (xa xb : List Lg.Fct) (w : World) (hb1 : Sl Go.Fw.encY (ph w) v1 xa) (hb2 : Sl Go.Fw.encY (ph w) v2 xb) : Ct Tryz.prog 32 [v1, v2] w (fun r _ _ => r = .bool (decide (xa = xb))) := by
 refine fn_enter Tryz.func32 rfl Tryz.ntmps32 (Nat.le_of_ble_eq_true rfl) fun a hF hS => ?_
 have hla := hb1.1
 have hlb := hb2.1
 refine wp_seq_k ?_; intro K1 hK1
 refine reg hF hS (sq rfl (q_assign rfl) <|
   sq_end) ?_
 clear hF hS; intro a w hF hS
 refine hK1 _ _ ?_
 clear hK1
 refine wp_seq_k ?_; intro K2 hK2
 refine wp_seq_k ?_; intro K3 hK3
 refine reg hF hS (sq rfl (q_move rfl) <|
   sq rfl (q_len_sl ty26 hb1 rfl) <|
   sq rfl (q_move rfl) <|
   sq rfl (q_len_sl ty26 hb2 rfl) <|
   sq rfl (q_nei rfl rfl) <|
   sq_end) ?_
 clear hF hS; intro a w hF hS
 refine hK3 _ _ ?_
 clear hK3
 refine wp_ifn hF rfl (fun hc1 => ?_) (fun hc1 => ?_)
 ·refine wp_seq_k ?_; intro K4 hK4
  refine reg hF hS (sq rfl (q_assign rfl) <|
    sq_end) ?_
  clear hF hS; intro a w hF hS
  refine hK4 _ _ ?_
  clear hK4
  refine wp_ret ?_
  exact fn_ret (rs := [.tmp 4]) rfl hF hS (vs := [_]) ⟨rfl, trivial⟩ zQ zQ (Ls.same_len hc1)
 ·refine wp_skip ?_
  refine hK2 _ _ ?_
  clear hK2
  refine wp_seq_k ?_; intro K5 hK5
  refine wp_seq_k ?_; intro K6 hK6
  refine reg hF hS (sq rfl (q_assign rfl) <|
    sq_end) ?_
  clear hF hS; intro a w hF hS
  refine hK6 _ _ ?_
  clear hK6
  refine wp_block ?_
  obtain ⟨hs0, hhs0, hS⟩ : ∃ h, h = _ ∧ St _ _ h _ := ⟨_, rfl, hS⟩
  refine wp_loopx (γ := Int) (0) (fun (i : Int) => [(5, vi i)]) [(0, _), (1, _)] (fun (i : Int) => hs0) (fun (i : Int) => 0 ≤ i ∧ i ≤ xa.length ∧ xa.take i.toNat = xb.take i.toNat) (fun (i : Int) => (xa.length - i).toNat) (hF.sub ⟨rfl, rfl, rfl, trivial⟩) (by subst hhs0; exact hS) (by exact ⟨Int.le_refl _, by omega, rfl⟩) ?_
  clear hF hS; rintro i a w hfact hF hS
  subst hhs0; (try dsimp only at hfact); (try dsimp only at hF); (try dsimp only at hS)
  obtain ⟨hi0, hi1, htk⟩ := hfact
  replace hS : St _ [] [] _ := hS
  refine wp_seq_k ?_; intro K7 hK7
  refine wp_seq_k ?_; intro K8 hK8
  refine reg hF hS (sq rfl (q_move rfl) <|
    sq rfl (q_move rfl) <|
    sq rfl (q_len_sl ty26 hb1 rfl) <|
    sq rfl (q_lti rfl rfl) <|
    sq_end) ?_
  clear hF hS; intro a w hF hS
  refine hK8 _ _ ?_
  clear hK8
  refine wp_ifd hF rfl (fun hc2 => ?_) (fun hc2 => ?_)
  ·have hi2 : i < xb.length := by omega
   refine wp_skip ?_
   refine hK7 _ _ ?_
   clear hK7
   refine wp_seq_k ?_; intro K9 hK9
   refine wp_block ?_
   refine wp_seq_k ?_; intro K10 hK10
   refine regd mixed kQ hF hS (sq rfl (q_move rfl) <|
     sq rfl (q_move rfl) <|
     sq rfl (q_idx_sl ty26 ty24 hb1 rfl rfl (by omega)) <|
     sq rfl (q_ld_Y ty24 hb1 zin0 rfl rfl (by omega)) <|
     sq rfl (q_move rfl) <|
     sq rfl (q_move rfl) <|
     sq rfl (q_idx_sl ty26 ty24 hb2 rfl rfl (by omega)) <|
     sq rfl (q_ld_Y ty24 hb2 zin0 rfl rfl (by omega)) <|
     sq rfl (q_neFc ty24 ty3 ty9 ⟨rfl, rfl, by decide⟩ ⟨rfl, rfl, by decide⟩ ⟨rfl, rfl, by decide⟩ kQ kQ rfl rfl) <|
     sq_end) ?_
   clear hF hS; intro a w hF hS
   refine hK10 _ _ ?_
   clear hK10
   refine wp_ifn hF rfl (fun hc3 => ?_) (fun hc3 => ?_)
   ·refine wp_seq_k ?_; intro K11 hK11
    refine reg hF hS (sq rfl (q_assign rfl) <|
      sq_end) ?_
    clear hF hS; intro a w hF hS
    refine hK11 _ _ ?_
    clear hK11
    refine wp_ret ?_
    exact fn_ret (rs := [.tmp 4]) rfl hF hS (vs := [_]) ⟨rfl, trivial⟩ zQ zQ (Ls.same_ne Lg.f0 hc3)
   ·refine wp_skip ?_
    refine hK9 _ _ ?_
    clear hK9
    refine reg hF hS (sq rfl (q_move rfl) <|
      sq rfl (q_addi rfl rfl (by omega)) <|
      sq rfl (q_assign rfl) <|
      sq_end) ?_
    clear hF hS; intro a w hF hS
    refine ⟨(i + 1), ?_, ?_, hF.sub ⟨rfl, rfl, rfl, trivial⟩, ?_⟩
    ·(try dsimp only); omega
    ·refine ⟨by omega, by omega, Ls.same_step Lg.f0 hi0 (by omega) hc1 hc3 htk⟩
    ·exact hS
  ·refine wp_exit ?_
   refine hK5 _ _ ?_
   clear hK5
   refine wp_seq_k ?_; intro K12 hK12
   refine reg hF hS (sq rfl (q_assign rfl) <|
     sq_end) ?_
   clear hF hS; intro a w hF hS
   refine hK12 _ _ ?_
   clear hK12
   refine wp_ret ?_
   exact fn_ret (rs := [.tmp 4]) rfl hF hS (vs := [_]) ⟨rfl, trivial⟩ zQ zQ (Ls.same_eq hc1 hc2 htk)

theorem growB_ct (n : Nat) (hn : n ≤ 140737488355328) (w : World) : Ct Tryz.prog 97 [.slice none 0 0, vi (n : Int)] w (fun v zs hs => zs = [] ∧ hs = [.row v 5 1 0 []]) := grow_ctT lG ty5 rfl n hn w

set_option maxRecDepth 4000 in
set_option maxHeartbeats 2000000 in
theorem concatB_ct (v : Value) (xs : List (List UInt8)) (hl : xs.length ≤ 4) (hx : ∀ x ∈ xs, x.length ≤ 1099511627776) (w : World) (hb : Sl (encSl encB) (ph w) v xs) : Ct Tryz.prog 56 [v] w (fun v zs hs => zs = [] ∧ hs = [.row v 5 1 (xs.flatten).length ((xs.flatten).map vb)]) := by
 refine fn_enter Tryz.func56 rfl Tryz.ntmps56 (Nat.le_of_ble_eq_true rfl) fun a hF hS => ?_
 have hbl := hb.1
 have hcl := Lg.cat_len hx
 refine wp_seq_k ?_; intro K1 hK1
 refine reg hF hS (sq rfl (q_assign rfl) <|
   sq_end) ?_
 clear hF hS; intro a w hF hS
 refine hK1 _ _ ?_
 clear hK1
 refine wp_seq_k ?_; intro K2 hK2
 refine reg hF hS (sq rfl (q_assign rfl) <|
   sq_end) ?_
 clear hF hS; intro a w hF hS
 refine hK2 _ _ ?_
 clear hK2
 refine wp_seq_k ?_; intro K3 hK3
 refine wp_seq_k ?_; intro K4 hK4
 refine reg hF hS (sq rfl (q_move rfl) <|
   sq rfl (q_len_sl ty29 hb rfl) <|
   sq rfl (q_move rfl) <|
   sq_end) ?_
 clear hF hS; intro a w hF hS
 refine hK4 _ _ ?_
 clear hK4
 refine wp_block ?_
 obtain ⟨hs0, hhs0, hS⟩ : ∃ h, h = _ ∧ St _ _ h _ := ⟨_, rfl, hS⟩
 refine wp_loopx (γ := Nat) (0) (fun (k : Nat) => [(3, vi ((xs.take k).flatten.length : Int)), (11, vi (k : Int))]) [(0, _), (9, _), (10, _)] (fun (k : Nat) => hs0) (fun (k : Nat) => k ≤ xs.length) (fun (k : Nat) => xs.length - k) (hF.sub ⟨rfl, rfl, rfl, rfl, rfl, trivial⟩) (by subst hhs0; exact hS) (by exact Nat.zero_le _) ?_
 clear hF hS; rintro k a w hfact hF hS
 subst hhs0; (try dsimp only at hfact); (try dsimp only at hF); (try dsimp only at hS)
 have hk0 := hfact
 replace hS : St _ [] [] _ := hS
 have hck := hcl k
 refine wp_seq_k ?_; intro K5 hK5
 refine reg hF hS (sq rfl (q_lti rfl rfl) <|
   sq_end) ?_
 clear hF hS; intro a w hF hS
 refine hK5 _ _ ?_
 clear hK5
 refine wp_seq_k ?_; intro K6 hK6
 refine wp_ifd hF rfl (fun hc1 => ?_) (fun hc1 => ?_)
 ·have hsk : (List.take (k + 1) xs).flatten.length = (List.take k xs).flatten.length + (xs.getD (k : Int).toNat []).length := by rw [Int.toNat_natCast, Lg.cat_step (by omega), List.length_append]
  have hckk := hcl (k + 1)
  refine wp_skip ?_
  refine hK6 _ _ ?_
  clear hK6
  refine wp_seq_k ?_; intro K7 hK7
  refine wp_block ?_
  refine wp_seq_k ?_; intro K8 hK8
  refine reg hF hS (sq rfl (q_idx_sl ty29 ty25 hb rfl rfl (by omega)) <|
    sq rfl (q_ld_Sl ty25 hb zin0 rfl rfl (by omega)) <|
    sq rfl (q_assign rfl) <|
    sq_end) ?_
  clear hF hS; intro a w hF hS
  refine hK8 _ _ ?_
  clear hK8
  refine wp_seq_k ?_; intro K9 hK9
  refine reg hF hS (sq rfl (q_move rfl) <|
    sq rfl (q_move rfl) <|
    sq rfl (q_len_sl ty25 (elemV_sl hb (by omega)) rfl) <|
    sq rfl (q_addi rfl rfl (by omega)) <|
    sq rfl (q_assign rfl) <|
    sq_end) ?_
  clear hF hS; intro a w hF hS
  refine hK9 _ _ ?_
  clear hK9
  refine wp_seq_k ?_; intro K10 hK10
  refine reg hF hS (sq rfl (q_move rfl) <|
    sq rfl (q_lti rfl rfl) <|
    sq_end) ?_
  clear hF hS; intro a w hF hS
  refine hK10 _ _ ?_
  clear hK10
  refine wp_ifd hF rfl (fun hc2 => ?_) (fun hc2 => ?_)
  ·exfalso; omega
  ·refine wp_skip ?_
   refine hK7 _ _ ?_
   clear hK7
   refine reg hF hS (sq rfl (q_addi rfl rfl (by omega)) <|
     sq rfl (q_move rfl) <|
     sq_end) ?_
   clear hF hS; intro a w hF hS
   refine ⟨(k + 1), ?_, ?_, hF.sub ⟨(by show some (vi _) = some (vi _); rw [Lg.cat_step (by omega), List.length_append, Int.toNat_natCast]; congr 2), rfl, rfl, rfl, rfl, trivial⟩, ?_⟩
   ·(try dsimp only); omega
   ·omega
   ·exact hS
 ·refine wp_exit ?_
  refine hK3 _ _ ?_
  clear hK3
  refine wp_seq_k ?_; intro K11 hK11
  refine regl ?_
  refine wpl_sq hF hS (sq rfl (q_move rfl) <|
    sq_end) ?_
  clear hF hS; intro a w hF hS
  refine wpl_ef hF hS rfl (ef_call fn97 rfl (fun w hS => growB_ct _ (by omega) w )) ?_
  clear hF hS; rintro v1 _ _ a w ⟨_, _, rfl, rfl, rfl, rfl⟩ hF hS
  replace hS : St _ [] [_] _ := hS
  refine wpl_sq hF hS (sq rfl (q_assign rfl) <|
    sq_end) ?_
  clear hF hS; intro a w hF hS
  refine wpList_nil ?_
  refine hK11 _ _ ?_
  clear hK11
  refine wp_seq_k ?_; intro K12 hK12
  refine wp_seq_k ?_; intro K13 hK13
  refine reg hF hS (sq rfl (q_move rfl) <|
    sq rfl (q_len_sl ty29 hb rfl) <|
    sq rfl (q_move rfl) <|
    sq_end) ?_
  clear hF hS; intro a w hF hS
  refine hK13 _ _ ?_
  clear hK13
  refine wp_block ?_
  obtain ⟨hs0, hhs0, hS⟩ : ∃ h, h = _ ∧ St _ _ h _ := ⟨_, rfl, hS⟩
  refine wp_loopx (γ := Value × Nat) (v1, 0) (fun (gg : Value × Nat) => match gg with | (u, j) => [(6, u), (27, vi (j : Int))]) [(25, _), (26, _)] (fun (gg : Value × Nat) => match gg with | (u, j) => (hs0.set 0 (.row u 5 1 (xs.take j).flatten.length ((xs.take j).flatten.map vb)))) (fun (gg : Value × Nat) => match gg with | (u, j) => j ≤ xs.length) (fun (gg : Value × Nat) => match gg with | (u, j) => xs.length - j) (hF.sub ⟨rfl, rfl, rfl, rfl, trivial⟩) (by subst hhs0; exact hS) (by exact Nat.zero_le _) ?_
  clear hF hS; rintro ⟨u, j⟩ a w hfact hF hS
  subst hhs0; (try dsimp only at hfact); (try dsimp only at hF); (try dsimp only at hS)
  have hj0 := hfact
  replace hS : St _ [] [_] _ := hS
  have hcj := hcl j
  refine wp_seq_k ?_; intro K14 hK14
  refine reg hF hS (sq rfl (q_lti rfl rfl) <|
    sq_end) ?_
  clear hF hS; intro a w hF hS
  refine hK14 _ _ ?_
  clear hK14
  refine wp_seq_k ?_; intro K15 hK15
  refine wp_ifd hF rfl (fun hc3 => ?_) (fun hc3 => ?_)
  ·have hsj : (List.take (j + 1) xs).flatten.length = (List.take j xs).flatten.length + (xs.getD (j : Int).toNat []).length := by rw [Int.toNat_natCast, Lg.cat_step (by omega), List.length_append]
   have hckj := hcl (j + 1)
   refine wp_skip ?_
   refine hK15 _ _ ?_
   clear hK15
   refine wp_seq_k ?_; intro K16 hK16
   refine wp_block ?_
   refine wp_seq_k ?_; intro K17 hK17
   refine reg hF hS (sq rfl (q_idx_sl ty29 ty25 hb rfl rfl (by omega)) <|
     sq rfl (q_ld_Sl ty25 hb zin0 rfl rfl (by omega)) <|
     sq rfl (q_assign rfl) <|
     sq_end) ?_
   clear hF hS; intro a w hF hS
   refine hK17 _ _ ?_
   clear hK17
   refine regl ?_
   refine wpl_sq hF hS (sq rfl (q_move rfl) <|
     sq rfl (q_move rfl) <|
     sq_end) ?_
   clear hF hS; intro a w hF hS
   refine wpl_ef hF hS rfl (ef_append ty25 ty5 0 rfl rfl rfl (src_slV ty25 (elemV_sl hb (by omega)) zin0) bQ rfl (by decide)) ?_
   clear hF hS; rintro v3 _ _ a w ⟨rfl, rfl⟩ hF hS
   replace hS : St _ [] [_] _ := hS
   refine wpl_sq hF hS (sq rfl (q_assign rfl) <|
     sq_end) ?_
   clear hF hS; intro a w hF hS
   refine wpList_nil ?_
   refine hK16 _ _ ?_
   clear hK16
   refine reg hF hS (sq rfl (q_addi rfl rfl (by omega)) <|
     sq rfl (q_move rfl) <|
     sq_end) ?_
   clear hF hS; intro a w hF hS
   refine ⟨(v3, j + 1), ?_, ?_, hF.sub ⟨rfl, rfl, rfl, rfl, trivial⟩, ?_⟩
   ·(try dsimp only); omega
   ·omega
   ·rw [← List.map_append, ← List.length_append, Int.toNat_natCast, ← Lg.cat_step (by omega)] at hS
    exact hS
  ·refine wp_exit ?_
   refine hK12 _ _ ?_
   clear hK12
   refine wp_seq_k ?_; intro K18 hK18
   refine reg hF hS (sq rfl (q_move rfl) <|
     sq rfl (q_assign rfl) <|
     sq_end) ?_
   clear hF hS; intro a w hF hS
   refine hK18 _ _ ?_
   clear hK18
   refine wp_ret ?_
   obtain rfl : j = xs.length := by omega
   rw [List.take_length] at hS
   exact fn_ret (rs := [.tmp 2]) rfl hF hS (vs := [_]) ⟨rfl, trivial⟩ zQ sQ ⟨rfl, rfl⟩
end Go.Proofs.YtngcjojijaknnaaGreatDoor
