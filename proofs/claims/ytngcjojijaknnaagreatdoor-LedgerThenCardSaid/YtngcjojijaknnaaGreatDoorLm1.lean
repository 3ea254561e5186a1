/- A text of a proof over this seat: walks over the program's functions and the plain laws that they need. -/
import Derived.Test.YtngcjojijaknnaaGreatDoorLw6
import Derived.Test.YtngcjojijaknnaaGreatDoorMkA
import Derived.Test.YtngcjojijaknnaaGreatDoorFwD
import Derived.Test.YtngcjojijaknnaaGreatDoorFwB
set_option linter.all false
namespace Go.Proofs.YtngcjojijaknnaaGreatDoor
open Go.Fw
theorem ty72 : Tf Tryz.prog 72 (.slice 142) 1 24 (Value.slice none 0 0) := ⟨Tryz.underlying72, by kernel_rfl⟩
theorem ty142 : Tf Tryz.prog 142 (.struct #[⟨ "Key", 9, 0, false, "", "", 0⟩, ⟨ "Value", 9, 1, false, "", "", 16⟩]) 2 32 (.agg ([Value.string ⟨(List.nil : List UInt8).toArray⟩, Value.string ⟨(List.nil : List UInt8).toArray⟩]).toArray) := ⟨Tryz.underlying142, by kernel_rfl⟩
theorem fn113 : FnOk Tryz.prog 113 := ⟨_, Tryz.func113, rfl, by kernel_rfl⟩
theorem fn114 : FnOk Tryz.prog 114 := ⟨_, Tryz.func114, rfl, by kernel_rfl⟩
theorem fn152 : FnOk Tryz.prog 152 := ⟨_, Tryz.func152, rfl, by kernel_rfl⟩

attribute [local irreducible] Sha.sum Sha.mac Sha.ofD Wi.int Wi.ints Wi.bytes Sha.inp Mk.half Lib.compareBytes

set_option maxRecDepth 4000 in
set_option maxHeartbeats 2000000 in
theorem valid1_ct (x : Mk.Lf) (w : World) : Ct Tryz.prog 114 [.agg [vs x.1, vs x.2].toArray] w (fun r _ _ => r = .bool (Mk.bigB x)) := by
 refine fn_enter Tryz.func114 rfl Tryz.ntmps114 (Nat.le_of_ble_eq_true rfl) fun a hF hS => ?_
 refine wp_seq_k ?_; intro K1 hK1
 refine regl ?_
 refine wpl_ef hF hS rfl (ef_boxA rfl) ?_
 clear hF hS; rintro _ _ _ a w ⟨b1, rfl, rfl, rfl⟩ hF hS
 refine wpl_sq hF hS (sq rfl (q_assign rfl) <|
   sq_end) ?_
 clear hF hS; intro a w hF hS
 refine wpList_nil ?_
 refine hK1 _ _ ?_
 clear hK1
 refine wp_seq_k ?_; intro K2 hK2
 refine regl ?_
 refine wpl_sq hF hS (sq rfl (q_fieldAddr ty142 rfl rfl (s' := 0) kQ) <|
   sq rfl (q_ld_blk1 ty9 0 rfl rfl rfl rfl) <|
   sq rfl (q_len_s ty9 rfl) <|
   sq rfl (q_gti rfl rfl) <|
   sq rfl (q_move rfl) <|
   sq_end) ?_
 clear hF hS; intro a w hF hS
 refine wpl_or 4 7 4 hF hS rfl rfl rfl rfl rfl (fun hg => have hg := (by first | exact of_decide_eq_false hg | exact hg); sq_go 7 rfl rfl rfl (q_fieldAddr ty142 rfl rfl (s' := 0) kQ) <|
   sq_go 7 rfl rfl rfl (q_ld_blk1 ty9 0 rfl rfl rfl rfl) <|
   sq_go 7 rfl rfl rfl (q_len_s ty9 rfl) <|
   sq_go 7 rfl rfl rfl (q_gti rfl rfl) <|
   sq_end) rfl rfl ?_
 clear hF hS; intro a w hF hS
 refine wpl_sq hF hS (sq rfl (q_assign rfl) <|
   sq_end) ?_
 clear hF hS; intro a w hF hS
 refine wpList_nil ?_
 refine hK2 _ _ ?_
 clear hK2
 refine wp_ret ?_
 exact fn_ret (rs := [.tmp 2]) rfl hF hS (vs := [_]) ⟨rfl, trivial⟩ zQ zQ (by rw [← Mk.big_eq])

set_option maxRecDepth 4000 in
set_option maxHeartbeats 2000000 in
theorem ixfL_ct (v : Value) (ls : List Mk.Lf) (w : World) (hb : Sl encF (ph w) v ls) : Ct Tryz.prog 152 [v, .func (.func 114) (List.nil : List Value).toArray (List.nil : List Value).toArray] w (fun r _ _ => r = vi (Mk.ixF Mk.bigB ls)) := by
 refine fn_enter Tryz.func152 rfl Tryz.ntmps152 (Nat.le_of_ble_eq_true rfl) fun a hF hS => ?_
 have hbl := hb.1
 refine wp_seq_k ?_; intro K1 hK1
 refine reg hF hS (sq rfl (q_assign rfl) <|
   sq_end) ?_
 clear hF hS; intro a w hF hS
 refine hK1 _ _ ?_
 clear hK1
 refine wp_seq_k ?_; intro K2 hK2
 refine wp_seq_k ?_; intro K3 hK3
 refine reg hF hS (sq rfl (q_move rfl) <|
   sq rfl (q_len_sl ty72 hb rfl) <|
   sq rfl (q_move rfl) <|
   sq_end) ?_
 clear hF hS; intro a w hF hS
 refine hK3 _ _ ?_
 clear hK3
 refine wp_block ?_
 obtain ⟨hs0, hhs0, hS⟩ : ∃ h, h = _ ∧ St _ _ h _ := ⟨_, rfl, hS⟩
 refine wp_loopx (γ := Int) (0) (fun (i : Int) => [(8, vi i)]) [(0, _), (1, _), (7, _)] (fun (i : Int) => hs0) (fun (i : Int) => 0 ≤ i ∧ i ≤ ls.length ∧ ∀ j, j < i.toNat → Mk.bigB (ls.getD j kv0) = false) (fun (i : Int) => (ls.length - i).toNat) (hF.sub ⟨rfl, rfl, rfl, rfl, trivial⟩) (by subst hhs0; exact hS) (by exact ⟨Int.le_refl _, by omega, fun j hj => absurd hj (by simp)⟩) ?_
 clear hF hS; rintro i a w hfact hF hS
 subst hhs0; (try dsimp only at hfact); (try dsimp only at hF); (try dsimp only at hS)
 obtain ⟨hi0, hi1, hno⟩ := hfact
 replace hS : St _ [] [] _ := hS
 refine wp_seq_k ?_; intro K4 hK4
 refine reg hF hS (sq rfl (q_lti rfl rfl) <|
   sq_end) ?_
 clear hF hS; intro a w hF hS
 refine hK4 _ _ ?_
 clear hK4
 refine wp_seq_k ?_; intro K5 hK5
 refine wp_ifd hF rfl (fun hc1 => ?_) (fun hc1 => ?_)
 ·refine wp_skip ?_
  refine hK5 _ _ ?_
  clear hK5
  refine wp_seq_k ?_; intro K6 hK6
  refine wp_block ?_
  refine wp_seq_k ?_; intro K7 hK7
  refine reg hF hS (sq rfl (q_move rfl) <|
    sq rfl (q_assign rfl) <|
    sq_end) ?_
  clear hF hS; intro a w hF hS
  refine hK7 _ _ ?_
  clear hK7
  refine wp_seq_k ?_; intro K8 hK8
  refine reg hF hS (sq rfl (q_move rfl) <|
    sq rfl (q_move rfl) <|
    sq rfl (q_move rfl) <|
    sq rfl (q_idx_sl ty72 ty142 hb rfl rfl (by omega)) <|
    sq rfl (q_ld_F ty142 hb zin0 rfl rfl (by omega)) <|
    sq rfl (q_callv fn114 rfl rfl (by exact fun w hS => valid1_ct (ls.getD i.toNat kv0) w ) (fun _ _ _ h => h)) <|
    sq_end) ?_
  clear hF hS; intro a w hF hS
  refine hK8 _ _ ?_
  clear hK8
  refine wp_if hF rfl (fun hc2 => ?_) (fun hc2 => ?_)
  ·refine wp_seq_k ?_; intro K9 hK9
   refine reg hF hS (sq rfl (q_move rfl) <|
     sq rfl (q_assign rfl) <|
     sq_end) ?_
   clear hF hS; intro a w hF hS
   refine hK9 _ _ ?_
   clear hK9
   refine wp_ret ?_
   exact fn_ret (rs := [.tmp 4]) rfl hF hS (vs := [_]) ⟨rfl, trivial⟩ zQ zQ (by rw [Mk.ixF_at (i := i.toNat) (by omega) hc2 hno, Int.toNat_of_nonneg hi0])
  ·refine wp_skip ?_
   refine hK6 _ _ ?_
   clear hK6
   refine reg hF hS (sq rfl (q_addi rfl rfl (by omega)) <|
     sq rfl (q_move rfl) <|
     sq_end) ?_
   clear hF hS; intro a w hF hS
   refine ⟨(i + 1), ?_, ?_, hF.sub ⟨rfl, rfl, rfl, rfl, trivial⟩, ?_⟩
   ·(try dsimp only); omega
   ·exact ⟨by omega, by omega, Mk.none_step hi0 hc2 hno⟩
   ·exact hS
 ·refine wp_exit ?_
  refine hK2 _ _ ?_
  clear hK2
  refine wp_seq_k ?_; intro K10 hK10
  refine reg hF hS (sq rfl (q_assign rfl) <|
    sq_end) ?_
  clear hF hS; intro a w hF hS
  refine hK10 _ _ ?_
  clear hK10
  refine wp_ret ?_
  exact fn_ret (rs := [.tmp 4]) rfl hF hS (vs := [_]) ⟨rfl, trivial⟩ zQ zQ (by rw [Mk.ixF_no (fun j hj => hno j (by omega))])

set_option maxRecDepth 4000 in
set_option maxHeartbeats 2000000 in
theorem contL_ct (v : Value) (ls : List Mk.Lf) (w : World) (hb : Sl encF (ph w) v ls) : Ct Tryz.prog 113 [v, .func (.func 114) (List.nil : List Value).toArray (List.nil : List Value).toArray] w (fun r _ _ => r = .bool (ls.any Mk.bigB)) := by
 refine fn_enter Tryz.func113 rfl Tryz.ntmps113 (Nat.le_of_ble_eq_true rfl) fun a hF hS => ?_
 have hbl := hb.1
 refine wp_seq_k ?_; intro K1 hK1
 refine reg hF hS (sq rfl (q_assign rfl) <|
   sq_end) ?_
 clear hF hS; intro a w hF hS
 refine hK1 _ _ ?_
 clear hK1
 refine wp_seq_k ?_; intro K2 hK2
 refine reg hF hS (sq rfl (q_move rfl) <|
   sq rfl (q_move rfl) <|
   sq rfl (q_call fn152 rfl (fun w hS => ixfL_ct _ _ w (Sl.mono (hS.le zin0) hb)) (fun _ _ _ h => h)) <|
   sq rfl (q_gei rfl rfl) <|
   sq rfl (q_assign rfl) <|
   sq_end) ?_
 clear hF hS; intro a w hF hS
 refine hK2 _ _ ?_
 clear hK2
 refine wp_ret ?_
 exact fn_ret (rs := [.tmp 4]) rfl hF hS (vs := [_]) ⟨rfl, trivial⟩ zQ zQ (by rw [Mk.ixF_any])

set_option maxRecDepth 4000 in
set_option maxHeartbeats 2000000 in
theorem valid_ct (v : Value) (ls : List Mk.Lf) (w : World) (hb : Sl encF (ph w) v ls) : Ct Tryz.prog 75 [v] w (fun r _ _ => r = vi (Mk.vE ls)) := by
 refine fn_enter Tryz.func75 rfl Tryz.ntmps75 (Nat.le_of_ble_eq_true rfl) fun a hF hS => ?_
 have hbl := hb.1
 refine wp_seq_k ?_; intro K1 hK1
 refine reg hF hS (sq rfl (q_assign rfl) <|
   sq_end) ?_
 clear hF hS; intro a w hF hS
 refine hK1 _ _ ?_
 clear hK1
 refine wp_seq_k ?_; intro K2 hK2
 refine wp_seq_k ?_; intro K3 hK3
 refine regl ?_
 refine wpl_sq hF hS (sq rfl (q_move rfl) <|
   sq rfl (q_len_sl ty72 hb rfl) <|
   sq rfl (q_gti rfl rfl) <|
   sq rfl (q_move rfl) <|
   sq_end) ?_
 clear hF hS; intro a w hF hS
 refine wpl_or 3 7 2 hF hS rfl rfl rfl rfl rfl (fun hg => have hg := (by first | exact of_decide_eq_false hg | exact hg); sq_go 7 rfl rfl rfl (q_move rfl) <|
   sq_go 7 rfl rfl rfl (q_call fn113 rfl (fun w hS => contL_ct _ _ w (Sl.mono (hS.le zin0) hb)) (fun _ _ _ h => h)) <|
   sq_end) rfl rfl ?_
 clear hF hS; intro a w hF hS
 refine wpList_nil ?_
 refine hK3 _ _ ?_
 clear hK3
 refine wp_if hF rfl (fun hc1 => ?_) (fun hc1 => ?_)
 ·(try simp only [Bool.or_eq_true, Bool.and_eq_true, Bool.or_eq_false_iff, Bool.and_eq_false_iff, decide_eq_true_eq, decide_eq_false_iff_not, Bool.not_eq_true', Bool.not_eq_false'] at hc1)
  refine wp_seq_k ?_; intro K4 hK4
  refine reg hF hS (sq rfl (q_assign rfl) <|
    sq_end) ?_
  clear hF hS; intro a w hF hS
  refine hK4 _ _ ?_
  clear hK4
  refine wp_ret ?_
  exact fn_ret (rs := [.tmp 2]) rfl hF hS (vs := [_]) ⟨rfl, trivial⟩ zQ zQ (by rw [Mk.vE_4 (by rcases hc1 with h | h; exact .inl (by omega); exact .inr h)])
 ·(try simp only [Bool.or_eq_true, Bool.and_eq_true, Bool.or_eq_false_iff, Bool.and_eq_false_iff, decide_eq_true_eq, decide_eq_false_iff_not, Bool.not_eq_true', Bool.not_eq_false'] at hc1)
  have hnb : ¬ (4096 < ls.length ∨ ls.any Mk.bigB = true) := fun h => by rcases h with h | h; exact hc1.1 (by omega); rw [hc1.2] at h; cases h
  refine wp_skip ?_
  refine hK2 _ _ ?_
  clear hK2
  refine wp_seq_k ?_; intro K5 hK5
  refine wp_seq_k ?_; intro K6 hK6
  refine reg hF hS (sq rfl (q_move rfl) <|
    sq rfl (q_len_sl ty72 hb rfl) <|
    sq rfl (q_move rfl) <|
    sq_end) ?_
  clear hF hS; intro a w hF hS
  refine hK6 _ _ ?_
  clear hK6
  refine wp_block ?_
  obtain ⟨hs0, hhs0, hS⟩ : ∃ h, h = _ ∧ St _ _ h _ := ⟨_, rfl, hS⟩
  refine wp_loopx (γ := Int) (0) (fun (i : Int) => [(13, vi i)]) [(0, _), (12, _)] (fun (i : Int) => hs0) (fun (i : Int) => 0 ≤ i ∧ i ≤ ls.length ∧ Mk.ascN ls i.toNat = true) (fun (i : Int) => (ls.length - i).toNat) (hF.sub ⟨rfl, rfl, rfl, trivial⟩) (by subst hhs0; exact hS) (by exact ⟨Int.le_refl _, by omega, rfl⟩) ?_
  clear hF hS; rintro i a w hfact hF hS
  subst hhs0; (try dsimp only at hfact); (try dsimp only at hF); (try dsimp only at hS)
  obtain ⟨hi0, hi1, has⟩ := hfact
  replace hS : St _ [] [] _ := hS
  refine wp_seq_k ?_; intro K7 hK7
  refine reg hF hS (sq rfl (q_lti rfl rfl) <|
    sq_end) ?_
  clear hF hS; intro a w hF hS
  refine hK7 _ _ ?_
  clear hK7
  refine wp_seq_k ?_; intro K8 hK8
  refine wp_ifd hF rfl (fun hc2 => ?_) (fun hc2 => ?_)
  ·refine wp_skip ?_
   refine hK8 _ _ ?_
   clear hK8
   refine wp_seq_k ?_; intro K9 hK9
   refine wp_block ?_
   refine wp_seq_k ?_; intro K10 hK10
   refine reg hF hS (sq rfl (q_move rfl) <|
     sq rfl (q_assign rfl) <|
     sq_end) ?_
   clear hF hS; intro a w hF hS
   refine hK10 _ _ ?_
   clear hK10
   refine wp_seq_k ?_; intro K11 hK11
   refine regq mixed kQ hS ?_
   refine wpq_seg hF (sq rfl (q_move rfl) <|
     sq rfl (q_gti rfl rfl) <|
     sq rfl (q_move rfl) <|
     sq_end) ?_
   clear hF; intro a hF
   refine wpq_and 2 18 12 hF rfl rfl rfl rfl rfl (fun hg => have hg := (by first | exact of_decide_eq_true hg | exact hg); sq_go 18 rfl rfl rfl (q_move rfl) <|
     sq_go 18 rfl rfl rfl (q_move rfl) <|
     sq_go 18 rfl rfl rfl (q_subi rfl rfl (by omega)) <|
     sq_go 18 rfl rfl rfl (q_idx_sl ty72 ty142 hb rfl rfl (by omega)) <|
     sq_go 18 rfl rfl rfl (q_fld_F ty142 hb rfl (by omega) rfl (s' := 0) kQ) <|
     sq_go 18 rfl rfl rfl (q_ld_FK ty9 hb zin0 rfl rfl (by omega)) <|
     sq_go 18 rfl rfl rfl (q_move rfl) <|
     sq_go 18 rfl rfl rfl (q_move rfl) <|
     sq_go 18 rfl rfl rfl (q_idx_sl ty72 ty142 hb rfl rfl (by omega)) <|
     sq_go 18 rfl rfl rfl (q_fld_F ty142 hb rfl (by omega) rfl (s' := 0) kQ) <|
     sq_go 18 rfl rfl rfl (q_ld_FK ty9 hb zin0 rfl rfl (by omega)) <|
     sq_go 18 rfl rfl rfl (q_ges rfl rfl) <|
     sq_end) rfl rfl ?_
   clear hF; intro a hF
   refine wpq_nil ?_
   clear hS; intro w hS
   refine hK11 _ _ ?_
   clear hK11
   refine wp_if hF rfl (fun hc3 => ?_) (fun hc3 => ?_)
   ·(try simp only [Bool.or_eq_true, Bool.and_eq_true, Bool.or_eq_false_iff, Bool.and_eq_false_iff, decide_eq_true_eq, decide_eq_false_iff_not, Bool.not_eq_true', Bool.not_eq_false'] at hc3)
    refine wp_seq_k ?_; intro K12 hK12
    refine reg hF hS (sq rfl (q_assign rfl) <|
      sq_end) ?_
    clear hF hS; intro a w hF hS
    refine hK12 _ _ ?_
    clear hK12
    refine wp_ret ?_
    exact fn_ret (rs := [.tmp 2]) rfl hF hS (vs := [_]) ⟨rfl, trivial⟩ zQ zQ (by rw [Mk.vE_1 hnb (Mk.asc_stop hc3.1 (by omega) hc3.2)])
   ·(try simp only [Bool.or_eq_true, Bool.and_eq_true, Bool.or_eq_false_iff, Bool.and_eq_false_iff, decide_eq_true_eq, decide_eq_false_iff_not, Bool.not_eq_true', Bool.not_eq_false'] at hc3)
    refine wp_skip ?_
    refine hK9 _ _ ?_
    clear hK9
    refine reg hF hS (sq rfl (q_addi rfl rfl (by omega)) <|
      sq rfl (q_move rfl) <|
      sq_end) ?_
    clear hF hS; intro a w hF hS
    refine ⟨(i + 1), ?_, ?_, hF.sub ⟨rfl, rfl, rfl, trivial⟩, ?_⟩
    ·(try dsimp only); omega
    ·exact ⟨by omega, by omega, Mk.asc_next hi0 has (fun h => hc3.elim (fun h2 => h2 h.1) (fun h2 => by have h3 := h.2; rw [show Mk.lt (ls.getD (i - 1).toNat kv0).1 (ls.getD i.toNat kv0).1 = true from h2] at h3; cases h3))⟩
    ·exact hS
  ·refine wp_exit ?_
   refine hK5 _ _ ?_
   clear hK5
   refine wp_seq_k ?_; intro K13 hK13
   refine reg hF hS (sq rfl (q_assign rfl) <|
     sq_end) ?_
   clear hF hS; intro a w hF hS
   refine hK13 _ _ ?_
   clear hK13
   refine wp_ret ?_
   exact fn_ret (rs := [.tmp 2]) rfl hF hS (vs := [_]) ⟨rfl, trivial⟩ zQ zQ (by rw [Mk.vE_0 hnb (by rw [show ls.length = i.toNat by omega]; exact has)])

set_option maxRecDepth 4000 in
set_option maxHeartbeats 2000000 in
theorem middle_ct (a b : Int) (n : Nat) (ha : 0 ≤ a ∧ a ≤ 1099511627776) (hn : b = a + n) (hn2 : 2 ≤ n) (hn9 : n ≤ 1099511627776) (w : World) : Ct Tryz.prog 118 [vi a, vi b] w (fun r _ _ => r = vi (a + Mk.half n)) := by
 refine fn_enter Tryz.func118 rfl Tryz.ntmps118 (Nat.le_of_ble_eq_true rfl) fun a hF hS => ?_
 refine wp_seq_k ?_; intro K1 hK1
 refine reg hF hS (sq rfl (q_assign rfl) <|
   sq_end) ?_
 clear hF hS; intro a w hF hS
 refine hK1 _ _ ?_
 clear hK1
 refine wp_seq_k ?_; intro K2 hK2
 refine reg hF hS (sq rfl (q_assign rfl) <|
   sq_end) ?_
 clear hF hS; intro a w hF hS
 refine hK2 _ _ ?_
 clear hK2
 refine wp_seq_k ?_; intro K3 hK3
 refine wp_block ?_
 obtain ⟨hs0, hhs0, hS⟩ : ∃ h, h = _ ∧ St _ _ h _ := ⟨_, rfl, hS⟩
 refine wp_loopx (γ := Int × Nat) (1, 0) (fun (gg : Int × Nat) => match gg with | (m, j) => [(5, vi m)]) [(0, _), (1, _)] (fun (gg : Int × Nat) => match gg with | (m, j) => hs0) (fun (gg : Int × Nat) => match gg with | (m, j) => m = ((2 ^ j : Nat) : Int) ∧ (j = 0 ∨ 2 ^ j < n) ∧ 1 ≤ m ∧ m ≤ 1099511627776) (fun (gg : Int × Nat) => match gg with | (m, j) => (2 * 1099511627776 - m).toNat) (hF.sub ⟨rfl, rfl, rfl, trivial⟩) (by subst hhs0; exact hS) (by exact ⟨rfl, .inl rfl, by omega, by omega⟩) ?_
 clear hF hS; rintro ⟨m, j⟩ a w hfact hF hS
 subst hhs0; (try dsimp only at hfact); (try dsimp only at hF); (try dsimp only at hS)
 obtain ⟨hm, hj, hm1, hm2⟩ := hfact
 replace hS : St _ [] [] _ := hS
 refine wp_seq_k ?_; intro K4 hK4
 refine wp_seq_k ?_; intro K5 hK5
 refine reg hF hS (sq rfl (q_move rfl) <|
   sq rfl (q_muli rfl rfl (by omega)) <|
   sq rfl (q_move rfl) <|
   sq rfl (q_move rfl) <|
   sq rfl (q_subi rfl rfl (by omega)) <|
   sq rfl (q_lti rfl rfl) <|
   sq_end) ?_
 clear hF hS; intro a w hF hS
 refine hK5 _ _ ?_
 clear hK5
 refine wp_ifd hF rfl (fun hc1 => ?_) (fun hc1 => ?_)
 ·refine wp_skip ?_
  refine hK4 _ _ ?_
  clear hK4
  refine wp_block ?_
  refine reg hF hS (sq rfl (q_move rfl) <|
    sq rfl (q_muli rfl rfl (by omega)) <|
    sq rfl (q_assign rfl) <|
    sq_end) ?_
  clear hF hS; intro a w hF hS
  refine ⟨(m * 2, j + 1), ?_, ?_, hF.sub ⟨rfl, rfl, rfl, trivial⟩, ?_⟩
  ·(try dsimp only); omega
  ·exact ⟨by rw [Nat.pow_succ, hm]; push_cast; omega, .inr (by rw [Nat.pow_succ]; omega), by omega, by omega⟩
  ·exact hS
 ·have hmh := Mk.pow_half hm hj (by omega) hn2
  refine wp_exit ?_
  refine hK3 _ _ ?_
  clear hK3
  refine wp_seq_k ?_; intro K6 hK6
  refine reg hF hS (sq rfl (q_move rfl) <|
    sq rfl (q_move rfl) <|
    sq rfl (q_addi rfl rfl (by omega)) <|
    sq rfl (q_assign rfl) <|
    sq_end) ?_
  clear hF hS; intro a w hF hS
  refine hK6 _ _ ?_
  clear hK6
  refine wp_ret ?_
  exact fn_ret (rs := [.tmp 4]) rfl hF hS (vs := [_]) ⟨rfl, trivial⟩ zQ zQ (by rw [hmh])

end Go.Proofs.YtngcjojijaknnaaGreatDoor
