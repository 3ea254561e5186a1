/- A text of a proof over this seat: walks over the program's functions and the plain laws that they need. -/
import Derived.Test.YtdojfnigffeblaaDoorMg5
import Derived.Test.YtdojfnigffeblaaDoorMkA
import Derived.Test.YtdojfnigffeblaaDoorFwD
import Derived.Test.YtdojfnigffeblaaDoorFwB
set_option linter.all false
namespace Go.Proofs.YtdojfnigffeblaaDoor
open Go.Fw
theorem ty24 : Tf Tryd.prog 24 (.slice 75) 1 24 (Value.slice none 0 0) := ⟨Tryd.underlying24, by kernel_rfl⟩
theorem ty33 : Tf Tryd.prog 33 (.slice 41) 1 24 (Value.slice none 0 0) := ⟨Tryd.underlying33, by kernel_rfl⟩
theorem ty41 : Tf Tryd.prog 41 (.struct #[⟨ "Key", 9, 0, false, "", "", 0⟩, ⟨ "Value", 9, 1, false, "", "", 16⟩]) 2 32 (.agg ([Value.string ⟨(List.nil : List UInt8).toArray⟩, Value.string ⟨(List.nil : List UInt8).toArray⟩]).toArray) := ⟨Tryd.underlying41, by kernel_rfl⟩
theorem ty75 : Tf Tryd.prog 75 (.struct #[⟨ "Key", 9, 0, false, "", "", 0⟩, ⟨ "Value", 9, 1, false, "", "", 16⟩]) 2 32 (.agg ([Value.string ⟨(List.nil : List UInt8).toArray⟩, Value.string ⟨(List.nil : List UInt8).toArray⟩]).toArray) := ⟨Tryd.underlying75, by kernel_rfl⟩
theorem fn53 : FnOk Tryd.prog 53 := ⟨_, Tryd.func53, rfl, by kernel_rfl⟩
theorem fn54 : FnOk Tryd.prog 54 := ⟨_, Tryd.func54, rfl, by kernel_rfl⟩
theorem fn87 : FnOk Tryd.prog 87 := ⟨_, Tryd.func87, rfl, by kernel_rfl⟩
theorem fn88 : FnOk Tryd.prog 88 := ⟨_, Tryd.func88, rfl, by kernel_rfl⟩
theorem fn89 : FnOk Tryd.prog 89 := ⟨_, Tryd.func89, rfl, by kernel_rfl⟩
theorem fn90 : FnOk Tryd.prog 90 := ⟨_, Tryd.func90, rfl, by kernel_rfl⟩
theorem fn107 : FnOk Tryd.prog 107 := ⟨_, Tryd.func107, rfl, by kernel_rfl⟩

attribute [local irreducible] Sha.sum Sha.mac Sha.ofD Wi.int Wi.ints Wi.bytes Sha.inp Mk.half Lib.compareBytes

set_option maxRecDepth 4000 in
set_option maxHeartbeats 2000000 in
theorem cmpstr_ct (a b : List UInt8) (w : World) : Ct Tryd.prog 107 [vs a, vs b] w (fun r _ _ => r = vi (Lib.compareBytes a b)) := by
 refine fn_enter Tryd.func107 rfl Tryd.ntmps107 (Nat.le_of_ble_eq_true rfl) fun a hF hS => ?_
 refine wp_seq_k ?_; intro K1 hK1
 refine reg hF hS (sq rfl (q_assign rfl) <|
   sq_end) ?_
 clear hF hS; intro a w hF hS
 refine hK1 _ _ ?_
 clear hK1
 refine wp_seq_k ?_; intro K2 hK2
 refine reg hF hS (sq rfl (q_move rfl) <|
   sq rfl (q_move rfl) <|
   sq rfl (q_cmps Tryd.func114 kQ rfl kQ kQ rfl rfl) <|
   sq rfl (q_assign rfl) <|
   sq_end) ?_
 clear hF hS; intro a w hF hS
 refine hK2 _ _ ?_
 clear hK2
 refine wp_ret ?_
 exact fn_ret (rs := [.tmp 4]) rfl hF hS (vs := [_]) ⟨rfl, trivial⟩ zQ zQ (rfl)

set_option maxRecDepth 4000 in
set_option maxHeartbeats 2000000 in
theorem scmp_ct (a b : List UInt8) (w : World) : Ct Tryd.prog 90 [vs a, vs b] w (fun r _ _ => r = vi (Lib.compareBytes a b)) := by
 refine fn_enter Tryd.func90 rfl Tryd.ntmps90 (Nat.le_of_ble_eq_true rfl) fun a hF hS => ?_
 refine wp_seq_k ?_; intro K1 hK1
 refine reg hF hS (sq rfl (q_assign rfl) <|
   sq_end) ?_
 clear hF hS; intro a w hF hS
 refine hK1 _ _ ?_
 clear hK1
 refine wp_seq_k ?_; intro K2 hK2
 refine reg hF hS (sq rfl (q_move rfl) <|
   sq rfl (q_move rfl) <|
   sq rfl (q_call fn107 rfl (fun w hS => cmpstr_ct _ _ w ) (fun _ _ _ h => h)) <|
   sq rfl (q_assign rfl) <|
   sq_end) ?_
 clear hF hS; intro a w hF hS
 refine hK2 _ _ ?_
 clear hK2
 refine wp_ret ?_
 exact fn_ret (rs := [.tmp 4]) rfl hF hS (vs := [_]) ⟨rfl, trivial⟩ zQ zQ (rfl)

set_option maxRecDepth 4000 in
set_option maxHeartbeats 2000000 in
theorem from1_ct (x : Mk.Lf) (k : List UInt8) (w : World) : Ct Tryd.prog 89 [.agg [vs x.1, vs x.2].toArray, vs k] w (fun r _ _ => r = vi (Lib.compareBytes x.1 k)) := by
 refine fn_enter Tryd.func89 rfl Tryd.ntmps89 (Nat.le_of_ble_eq_true rfl) fun a hF hS => ?_
 refine wp_seq_k ?_; intro K1 hK1
 refine regl ?_
 refine wpl_ef hF hS rfl (ef_boxA rfl) ?_
 clear hF hS; rintro _ _ _ a w ⟨b1, rfl, rfl, rfl⟩ hF hS
 refine wpl_sq hF hS (sq rfl (q_assign rfl) <|
   sq_end) ?_
 clear hF hS; intro a w hF hS
 refine wpList_nil ?_
 refine hK1 _ _ ?_
 clear hK1
 refine wp_seq_k ?_; intro K2 hK2
 refine reg hF hS (sq rfl (q_fieldAddr ty41 rfl rfl (s' := 0) kQ) <|
   sq rfl (q_ld_blk1 ty9 0 rfl rfl rfl rfl) <|
   sq rfl (q_move rfl) <|
   sq rfl (q_call fn90 rfl (fun w hS => scmp_ct _ _ w ) (fun _ _ _ h => h)) <|
   sq rfl (q_assign rfl) <|
   sq_end) ?_
 clear hF hS; intro a w hF hS
 refine hK2 _ _ ?_
 clear hK2
 refine wp_ret ?_
 exact fn_ret (rs := [.tmp 4]) rfl hF hS (vs := [_]) ⟨rfl, trivial⟩ zQ zQ (rfl)

set_option maxRecDepth 4000 in
set_option maxHeartbeats 2000000 in
theorem valid1_ct (x : Mk.Lf) (w : World) : Ct Tryd.prog 54 [.agg [vs x.1, vs x.2].toArray] w (fun r _ _ => r = .bool (Mk.bigB x)) := by
 refine fn_enter Tryd.func54 rfl Tryd.ntmps54 (Nat.le_of_ble_eq_true rfl) fun a hF hS => ?_
 refine wp_seq_k ?_; intro K1 hK1
 refine regl ?_
 refine wpl_ef hF hS rfl (ef_boxA rfl) ?_
 clear hF hS; rintro _ _ _ a w ⟨b1, rfl, rfl, rfl⟩ hF hS
 refine wpl_sq hF hS (sq rfl (q_assign rfl) <|
   sq_end) ?_
 clear hF hS; intro a w hF hS
 refine wpList_nil ?_
 refine hK1 _ _ ?_
 clear hK1
 refine wp_seq_k ?_; intro K2 hK2
 refine regl ?_
 refine wpl_sq hF hS (sq rfl (q_fieldAddr ty41 rfl rfl (s' := 0) kQ) <|
   sq rfl (q_ld_blk1 ty9 0 rfl rfl rfl rfl) <|
   sq rfl (q_len_s ty9 rfl) <|
   sq rfl (q_gti rfl rfl) <|
   sq rfl (q_move rfl) <|
   sq_end) ?_
 clear hF hS; intro a w hF hS
 refine wpl_or 4 7 4 hF hS rfl rfl rfl rfl rfl (fun hg => have hg := (by first | exact of_decide_eq_false hg | exact hg); sq_go 7 rfl rfl rfl (q_fieldAddr ty41 rfl rfl (s' := 0) kQ) <|
   sq_go 7 rfl rfl rfl (q_ld_blk1 ty9 0 rfl rfl rfl rfl) <|
   sq_go 7 rfl rfl rfl (q_len_s ty9 rfl) <|
   sq_go 7 rfl rfl rfl (q_gti rfl rfl) <|
   sq_end) rfl rfl ?_
 clear hF hS; intro a w hF hS
 refine wpl_sq hF hS (sq rfl (q_assign rfl) <|
   sq_end) ?_
 clear hF hS; intro a w hF hS
 refine wpList_nil ?_
 refine hK2 _ _ ?_
 clear hK2
 refine wp_ret ?_
 exact fn_ret (rs := [.tmp 2]) rfl hF hS (vs := [_]) ⟨rfl, trivial⟩ zQ zQ (by rw [← Mk.big_eq])

set_option maxRecDepth 4000 in
set_option maxHeartbeats 2000000 in
theorem ixfL_ct (v : Value) (ls : List Mk.Lf) (w : World) (hb : Sl encF (ph w) v ls) : Ct Tryd.prog 87 [v, .func (.func 54) (List.nil : List Value).toArray (List.nil : List Value).toArray] w (fun r _ _ => r = vi (Mk.ixF Mk.bigB ls)) := by
 refine fn_enter Tryd.func87 rfl Tryd.ntmps87 (Nat.le_of_ble_eq_true rfl) fun a hF hS => ?_
 have hbl := hb.1
 refine wp_seq_k ?_; intro K1 hK1
 refine reg hF hS (sq rfl (q_assign rfl) <|
   sq_end) ?_
 clear hF hS; intro a w hF hS
 refine hK1 _ _ ?_
 clear hK1
 refine wp_seq_k ?_; intro K2 hK2
 refine wp_seq_k ?_; intro K3 hK3
 refine reg hF hS (sq rfl (q_move rfl) <|
   sq rfl (q_len_sl ty33 hb rfl) <|
   sq rfl (q_move rfl) <|
   sq_end) ?_
 clear hF hS; intro a w hF hS
 refine hK3 _ _ ?_
 clear hK3
 refine wp_block ?_
 obtain ⟨hs0, hhs0, hS⟩ : ∃ h, h = _ ∧ St _ _ h _ := ⟨_, rfl, hS⟩
 refine wp_loopx (γ := Int) (0) (fun (i : Int) => [(8, vi i)]) [(0, _), (1, _), (7, _)] (fun (i : Int) => hs0) (fun (i : Int) => 0 ≤ i ∧ i ≤ ls.length ∧ ∀ j, j < i.toNat → Mk.bigB (ls.getD j kv0) = false) (fun (i : Int) => (ls.length - i).toNat) (hF.sub ⟨rfl, rfl, rfl, rfl, trivial⟩) (by subst hhs0; exact hS) (by exact ⟨Int.le_refl _, by omega, fun j hj => absurd hj (by simp)⟩) ?_
 clear hF hS; rintro i a w hfact hF hS
 subst hhs0; (try dsimp only at hfact); (try dsimp only at hF); (try dsimp only at hS)
 obtain ⟨hi0, hi1, hno⟩ := hfact
 replace hS : St _ [] [] _ := hS
 refine wp_seq_k ?_; intro K4 hK4
 refine reg hF hS (sq rfl (q_lti rfl rfl) <|
   sq_end) ?_
 clear hF hS; intro a w hF hS
 refine hK4 _ _ ?_
 clear hK4
 refine wp_seq_k ?_; intro K5 hK5
 refine wp_ifd hF rfl (fun hc1 => ?_) (fun hc1 => ?_)
 ·refine wp_skip ?_
  refine hK5 _ _ ?_
  clear hK5
  refine wp_seq_k ?_; intro K6 hK6
  refine wp_block ?_
  refine wp_seq_k ?_; intro K7 hK7
  refine reg hF hS (sq rfl (q_move rfl) <|
    sq rfl (q_assign rfl) <|
    sq_end) ?_
  clear hF hS; intro a w hF hS
  refine hK7 _ _ ?_
  clear hK7
  refine wp_seq_k ?_; intro K8 hK8
  refine reg hF hS (sq rfl (q_move rfl) <|
    sq rfl (q_move rfl) <|
    sq rfl (q_move rfl) <|
    sq rfl (q_idx_sl ty33 ty41 hb rfl rfl (by omega)) <|
    sq rfl (q_ld_F ty41 hb zin0 rfl rfl (by omega)) <|
    sq rfl (q_callv fn54 rfl rfl (by exact fun w hS => valid1_ct (ls.getD i.toNat kv0) w ) (fun _ _ _ h => h)) <|
    sq_end) ?_
  clear hF hS; intro a w hF hS
  refine hK8 _ _ ?_
  clear hK8
  refine wp_if hF rfl (fun hc2 => ?_) (fun hc2 => ?_)
  ·refine wp_seq_k ?_; intro K9 hK9
   refine reg hF hS (sq rfl (q_move rfl) <|
     sq rfl (q_assign rfl) <|
     sq_end) ?_
   clear hF hS; intro a w hF hS
   refine hK9 _ _ ?_
   clear hK9
   refine wp_ret ?_
   exact fn_ret (rs := [.tmp 4]) rfl hF hS (vs := [_]) ⟨rfl, trivial⟩ zQ zQ (by rw [Mk.ixF_at (i := i.toNat) (by omega) hc2 hno, Int.toNat_of_nonneg hi0])
  ·refine wp_skip ?_
   refine hK6 _ _ ?_
   clear hK6
   refine reg hF hS (sq rfl (q_addi rfl rfl (by omega)) <|
     sq rfl (q_move rfl) <|
     sq_end) ?_
   clear hF hS; intro a w hF hS
   refine ⟨(i + 1), ?_, ?_, hF.sub ⟨rfl, rfl, rfl, rfl, trivial⟩, ?_⟩
   ·(try dsimp only); omega
   ·exact ⟨by omega, by omega, Mk.none_step hi0 hc2 hno⟩
   ·exact hS
 ·refine wp_exit ?_
  refine hK2 _ _ ?_
  clear hK2
  refine wp_seq_k ?_; intro K10 hK10
  refine reg hF hS (sq rfl (q_assign rfl) <|
    sq_end) ?_
  clear hF hS; intro a w hF hS
  refine hK10 _ _ ?_
  clear hK10
  refine wp_ret ?_
  exact fn_ret (rs := [.tmp 4]) rfl hF hS (vs := [_]) ⟨rfl, trivial⟩ zQ zQ (by rw [Mk.ixF_no (fun j hj => hno j (by omega))])

set_option maxRecDepth 4000 in
set_option maxHeartbeats 2000000 in
theorem contL_ct (v : Value) (ls : List Mk.Lf) (w : World) (hb : Sl encF (ph w) v ls) : Ct Tryd.prog 53 [v, .func (.func 54) (List.nil : List Value).toArray (List.nil : List Value).toArray] w (fun r _ _ => r = .bool (ls.any Mk.bigB)) := by
 refine fn_enter Tryd.func53 rfl Tryd.ntmps53 (Nat.le_of_ble_eq_true rfl) fun a hF hS => ?_
 have hbl := hb.1
 refine wp_seq_k ?_; intro K1 hK1
 refine reg hF hS (sq rfl (q_assign rfl) <|
   sq_end) ?_
 clear hF hS; intro a w hF hS
 refine hK1 _ _ ?_
 clear hK1
 refine wp_seq_k ?_; intro K2 hK2
 refine reg hF hS (sq rfl (q_move rfl) <|
   sq rfl (q_move rfl) <|
   sq rfl (q_call fn87 rfl (fun w hS => ixfL_ct _ _ w (Sl.mono (hS.le zin0) hb)) (fun _ _ _ h => h)) <|
   sq rfl (q_gei rfl rfl) <|
   sq rfl (q_assign rfl) <|
   sq_end) ?_
 clear hF hS; intro a w hF hS
 refine hK2 _ _ ?_
 clear hK2
 refine wp_ret ?_
 exact fn_ret (rs := [.tmp 4]) rfl hF hS (vs := [_]) ⟨rfl, trivial⟩ zQ zQ (by rw [Mk.ixF_any])

set_option maxRecDepth 4000 in
set_option maxHeartbeats 2000000 in
theorem valid_ct (v : Value) (ls : List Mk.Lf) (w : World) (hb : Sl encF (ph w) v ls) : Ct Tryd.prog 15 [v] w (fun r _ _ => r = vi (Mk.vE ls)) := by
 refine fn_enter Tryd.func15 rfl Tryd.ntmps15 (Nat.le_of_ble_eq_true rfl) fun a hF hS => ?_
 have hbl := hb.1
 refine wp_seq_k ?_; intro K1 hK1
 refine reg hF hS (sq rfl (q_assign rfl) <|
   sq_end) ?_
 clear hF hS; intro a w hF hS
 refine hK1 _ _ ?_
 clear hK1
 refine wp_seq_k ?_; intro K2 hK2
 refine wp_seq_k ?_; intro K3 hK3
 refine regl ?_
 refine wpl_sq hF hS (sq rfl (q_move rfl) <|
   sq rfl (q_len_sl ty33 hb rfl) <|
   sq rfl (q_gti rfl rfl) <|
   sq rfl (q_move rfl) <|
   sq_end) ?_
 clear hF hS; intro a w hF hS
 refine wpl_or 3 7 2 hF hS rfl rfl rfl rfl rfl (fun hg => have hg := (by first | exact of_decide_eq_false hg | exact hg); sq_go 7 rfl rfl rfl (q_move rfl) <|
   sq_go 7 rfl rfl rfl (q_call fn53 rfl (fun w hS => contL_ct _ _ w (Sl.mono (hS.le zin0) hb)) (fun _ _ _ h => h)) <|
   sq_end) rfl rfl ?_
 clear hF hS; intro a w hF hS
 refine wpList_nil ?_
 refine hK3 _ _ ?_
 clear hK3
 refine wp_if hF rfl (fun hc1 => ?_) (fun hc1 => ?_)
 ·(try simp only [Bool.or_eq_true, Bool.and_eq_true, Bool.or_eq_false_iff, Bool.and_eq_false_iff, decide_eq_true_eq, decide_eq_false_iff_not, Bool.not_eq_true', Bool.not_eq_false'] at hc1)
  refine wp_seq_k ?_; intro K4 hK4
  refine reg hF hS (sq rfl (q_assign rfl) <|
    sq_end) ?_
  clear hF hS; intro a w hF hS
  refine hK4 _ _ ?_
  clear hK4
  refine wp_ret ?_
  exact fn_ret (rs := [.tmp 2]) rfl hF hS (vs := [_]) ⟨rfl, trivial⟩ zQ zQ (by rw [Mk.vE_4 (by rcases hc1 with h | h; exact .inl (by omega); exact .inr h)])
 ·(try simp only [Bool.or_eq_true, Bool.and_eq_true, Bool.or_eq_false_iff, Bool.and_eq_false_iff, decide_eq_true_eq, decide_eq_false_iff_not, Bool.not_eq_true', Bool.not_eq_false'] at hc1)
  have hnb : ¬ (4096 < ls.length ∨ ls.any Mk.bigB = true) := fun h => by rcases h with h | h; exact hc1.1 (by omega); rw [hc1.2] at h; cases h
  refine wp_skip ?_
  refine hK2 _ _ ?_
  clear hK2
  refine wp_seq_k ?_; intro K5 hK5
  refine wp_seq_k ?_; intro K6 hK6
  refine reg hF hS (sq rfl (q_move rfl) <|
    sq rfl (q_len_sl ty33 hb rfl) <|
    sq rfl (q_move rfl) <|
    sq_end) ?_
  clear hF hS; intro a w hF hS
  refine hK6 _ _ ?_
  clear hK6
  refine wp_block ?_
  obtain ⟨hs0, hhs0, hS⟩ : ∃ h, h = _ ∧ St _ _ h _ := ⟨_, rfl, hS⟩
  refine wp_loopx (γ := Int) (0) (fun (i : Int) => [(13, vi i)]) [(0, _), (12, _)] (fun (i : Int) => hs0) (fun (i : Int) => 0 ≤ i ∧ i ≤ ls.length ∧ Mk.ascN ls i.toNat = true) (fun (i : Int) => (ls.length - i).toNat) (hF.sub ⟨rfl, rfl, rfl, trivial⟩) (by subst hhs0; exact hS) (by exact ⟨Int.le_refl _, by omega, rfl⟩) ?_
  clear hF hS; rintro i a w hfact hF hS
  subst hhs0; (try dsimp only at hfact); (try dsimp only at hF); (try dsimp only at hS)
  obtain ⟨hi0, hi1, has⟩ := hfact
  replace hS : St _ [] [] _ := hS
  refine wp_seq_k ?_; intro K7 hK7
  refine reg hF hS (sq rfl (q_lti rfl rfl) <|
    sq_end) ?_
  clear hF hS; intro a w hF hS
  refine hK7 _ _ ?_
  clear hK7
  refine wp_seq_k ?_; intro K8 hK8
  refine wp_ifd hF rfl (fun hc2 => ?_) (fun hc2 => ?_)
  ·refine wp_skip ?_
   refine hK8 _ _ ?_
   clear hK8
   refine wp_seq_k ?_; intro K9 hK9
   refine wp_block ?_
   refine wp_seq_k ?_; intro K10 hK10
   refine reg hF hS (sq rfl (q_move rfl) <|
     sq rfl (q_assign rfl) <|
     sq_end) ?_
   clear hF hS; intro a w hF hS
   refine hK10 _ _ ?_
   clear hK10
   refine wp_seq_k ?_; intro K11 hK11
   refine regq mixed kQ hS ?_
   refine wpq_seg hF (sq rfl (q_move rfl) <|
     sq rfl (q_gti rfl rfl) <|
     sq rfl (q_move rfl) <|
     sq_end) ?_
   clear hF; intro a hF
   refine wpq_and 2 18 12 hF rfl rfl rfl rfl rfl (fun hg => have hg := (by first | exact of_decide_eq_true hg | exact hg); sq_go 18 rfl rfl rfl (q_move rfl) <|
     sq_go 18 rfl rfl rfl (q_move rfl) <|
     sq_go 18 rfl rfl rfl (q_subi rfl rfl (by omega)) <|
     sq_go 18 rfl rfl rfl (q_idx_sl ty33 ty41 hb rfl rfl (by omega)) <|
     sq_go 18 rfl rfl rfl (q_fld_F ty41 hb rfl (by omega) rfl (s' := 0) kQ) <|
     sq_go 18 rfl rfl rfl (q_ld_FK ty9 hb zin0 rfl rfl (by omega)) <|
     sq_go 18 rfl rfl rfl (q_move rfl) <|
     sq_go 18 rfl rfl rfl (q_move rfl) <|
     sq_go 18 rfl rfl rfl (q_idx_sl ty33 ty41 hb rfl rfl (by omega)) <|
     sq_go 18 rfl rfl rfl (q_fld_F ty41 hb rfl (by omega) rfl (s' := 0) kQ) <|
     sq_go 18 rfl rfl rfl (q_ld_FK ty9 hb zin0 rfl rfl (by omega)) <|
     sq_go 18 rfl rfl rfl (q_ges rfl rfl) <|
     sq_end) rfl rfl ?_
   clear hF; intro a hF
   refine wpq_nil ?_
   clear hS; intro w hS
   refine hK11 _ _ ?_
   clear hK11
   refine wp_if hF rfl (fun hc3 => ?_) (fun hc3 => ?_)
   ·(try simp only [Bool.or_eq_true, Bool.and_eq_true, Bool.or_eq_false_iff, Bool.and_eq_false_iff, decide_eq_true_eq, decide_eq_false_iff_not, Bool.not_eq_true', Bool.not_eq_false'] at hc3)
    refine wp_seq_k ?_; intro K12 hK12
    refine reg hF hS (sq rfl (q_assign rfl) <|
      sq_end) ?_
    clear hF hS; intro a w hF hS
    refine hK12 _ _ ?_
    clear hK12
    refine wp_ret ?_
    exact fn_ret (rs := [.tmp 2]) rfl hF hS (vs := [_]) ⟨rfl, trivial⟩ zQ zQ (by rw [Mk.vE_1 hnb (Mk.asc_stop hc3.1 (by omega) hc3.2)])
   ·(try simp only [Bool.or_eq_true, Bool.and_eq_true, Bool.or_eq_false_iff, Bool.and_eq_false_iff, decide_eq_true_eq, decide_eq_false_iff_not, Bool.not_eq_true', Bool.not_eq_false'] at hc3)
    refine wp_skip ?_
    refine hK9 _ _ ?_
    clear hK9
    refine reg hF hS (sq rfl (q_addi rfl rfl (by omega)) <|
      sq rfl (q_move rfl) <|
      sq_end) ?_
    clear hF hS; intro a w hF hS
    refine ⟨(i + 1), ?_, ?_, hF.sub ⟨rfl, rfl, rfl, trivial⟩, ?_⟩
    ·(try dsimp only); omega
    ·exact ⟨by omega, by omega, Mk.asc_next hi0 has (fun h => hc3.elim (fun h2 => h2 h.1) (fun h2 => by have h3 := h.2; rw [show Mk.lt (ls.getD (i - 1).toNat kv0).1 (ls.getD i.toNat kv0).1 = true from h2] at h3; cases h3))⟩
    ·exact hS
  ·refine wp_exit ?_
   refine hK5 _ _ ?_
   clear hK5
   refine wp_seq_k ?_; intro K13 hK13
   refine reg hF hS (sq rfl (q_assign rfl) <|
     sq_end) ?_
   clear hF hS; intro a w hF hS
   refine hK13 _ _ ?_
   clear hK13
   refine wp_ret ?_
   exact fn_ret (rs := [.tmp 2]) rfl hF hS (vs := [_]) ⟨rfl, trivial⟩ zQ zQ (by rw [Mk.vE_0 hnb (by rw [show ls.length = i.toNat by omega]; exact has)])

set_option maxRecDepth 4000 in
set_option maxHeartbeats 2000000 in
theorem rvalid_ct (v : Value) (ls : List Mk.Lf) (w : World) (hb : Sl encF (ph w) v ls) : Ct Tryd.prog 16 [v] w (fun r _ _ => r = vi (Mk.vE ls)) := by
 refine fn_enter Tryd.func16 rfl Tryd.ntmps16 (Nat.le_of_ble_eq_true rfl) fun a hF hS => ?_
 have hbl := hb.1
 refine wp_seq_k ?_; intro K1 hK1
 refine reg hF hS (sq rfl (q_assign rfl) <|
   sq_end) ?_
 clear hF hS; intro a w hF hS
 refine hK1 _ _ ?_
 clear hK1
 refine wp_seq_k ?_; intro K2 hK2
 refine wp_seq_k ?_; intro K3 hK3
 refine reg hF hS (sq rfl (q_move rfl) <|
   sq rfl (q_len_sl ty24 hb rfl) <|
   sq rfl (q_gti rfl rfl) <|
   sq_end) ?_
 clear hF hS; intro a w hF hS
 refine hK3 _ _ ?_
 clear hK3
 refine wp_ifd hF rfl (fun hc1 => ?_) (fun hc1 => ?_)
 ·refine wp_seq_k ?_; intro K4 hK4
  refine reg hF hS (sq rfl (q_assign rfl) <|
    sq_end) ?_
  clear hF hS; intro a w hF hS
  refine hK4 _ _ ?_
  clear hK4
  refine wp_ret ?_
  exact fn_ret (rs := [.tmp 2]) rfl hF hS (vs := [_]) ⟨rfl, trivial⟩ zQ zQ (by rw [Mk.vE_4 (.inl (by omega))])
 ·refine wp_skip ?_
  refine hK2 _ _ ?_
  clear hK2
  refine wp_seq_k ?_; intro K5 hK5
  refine wp_seq_k ?_; intro K6 hK6
  refine reg hF hS (sq rfl (q_assign rfl) <|
    sq_end) ?_
  clear hF hS; intro a w hF hS
  refine hK6 _ _ ?_
  clear hK6
  refine wp_block ?_
  obtain ⟨hs0, hhs0, hS⟩ : ∃ h, h = _ ∧ St _ _ h _ := ⟨_, rfl, hS⟩
  refine wp_loopx (γ := Int) (0) (fun (i : Int) => [(3, vi i)]) [(0, _)] (fun (i : Int) => hs0) (fun (i : Int) => 0 ≤ i ∧ i ≤ ls.length ∧ ∀ j, j < i.toNat → Mk.bigB (ls.getD j kv0) = false) (fun (i : Int) => (ls.length - i).toNat) (hF.sub ⟨rfl, rfl, trivial⟩) (by subst hhs0; exact hS) (by exact ⟨Int.le_refl _, by omega, fun j hj => absurd hj (by simp)⟩) ?_
  clear hF hS; rintro i a w hfact hF hS
  subst hhs0; (try dsimp only at hfact); (try dsimp only at hF); (try dsimp only at hS)
  obtain ⟨hi0, hi1, hno⟩ := hfact
  replace hS : St _ [] [] _ := hS
  refine wp_seq_k ?_; intro K7 hK7
  refine wp_seq_k ?_; intro K8 hK8
  refine reg hF hS (sq rfl (q_move rfl) <|
    sq rfl (q_move rfl) <|
    sq rfl (q_len_sl ty24 hb rfl) <|
    sq rfl (q_lti rfl rfl) <|
    sq_end) ?_
  clear hF hS; intro a w hF hS
  refine hK8 _ _ ?_
  clear hK8
  refine wp_ifd hF rfl (fun hc2 => ?_) (fun hc2 => ?_)
  ·refine wp_skip ?_
   refine hK7 _ _ ?_
   clear hK7
   refine wp_seq_k ?_; intro K9 hK9
   refine wp_block ?_
   refine wp_seq_k ?_; intro K10 hK10
   refine regl ?_
   refine wpl_sq hF hS (sq rfl (q_move rfl) <|
     sq rfl (q_move rfl) <|
     sq rfl (q_idx_sl ty24 ty75 hb rfl rfl (by omega)) <|
     sq rfl (q_fld_F ty75 hb rfl (by omega) rfl (s' := 0) kQ) <|
     sq rfl (q_ld_FK ty9 hb zin0 rfl rfl (by omega)) <|
     sq rfl (q_len_s ty9 rfl) <|
     sq rfl (q_gti rfl rfl) <|
     sq rfl (q_move rfl) <|
     sq_end) ?_
   clear hF hS; intro a w hF hS
   refine wpl_or 7 21 7 hF hS rfl rfl rfl rfl rfl (fun hg => have hg := (by first | exact of_decide_eq_false hg | exact hg); sq_go 21 rfl rfl rfl (q_move rfl) <|
     sq_go 21 rfl rfl rfl (q_move rfl) <|
     sq_go 21 rfl rfl rfl (q_idx_sl ty24 ty75 hb rfl rfl (by omega)) <|
     sq_go 21 rfl rfl rfl (q_fld_F ty75 hb rfl (by omega) rfl (s' := 0) kQ) <|
     sq_go 21 rfl rfl rfl (q_ld_FV ty9 hb zin0 rfl rfl (by omega)) <|
     sq_go 21 rfl rfl rfl (q_len_s ty9 rfl) <|
     sq_go 21 rfl rfl rfl (q_gti rfl rfl) <|
     sq_end) rfl rfl ?_
   clear hF hS; intro a w hF hS
   refine wpList_nil ?_
   refine hK10 _ _ ?_
   clear hK10
   refine wp_if hF rfl (fun hc3 => ?_) (fun hc3 => ?_)
   ·(try simp only [Bool.or_eq_true, Bool.and_eq_true, Bool.or_eq_false_iff, Bool.and_eq_false_iff, decide_eq_true_eq, decide_eq_false_iff_not, Bool.not_eq_true', Bool.not_eq_false'] at hc3)
    have hbg : Mk.bigB (ls.getD i.toNat kv0) = true := by rw [← Mk.big_eq]; simpa using hc3
    refine wp_seq_k ?_; intro K11 hK11
    refine reg hF hS (sq rfl (q_assign rfl) <|
      sq_end) ?_
    clear hF hS; intro a w hF hS
    refine hK11 _ _ ?_
    clear hK11
    refine wp_ret ?_
    exact fn_ret (rs := [.tmp 2]) rfl hF hS (vs := [_]) ⟨rfl, trivial⟩ zQ zQ (by rw [Mk.vE_4 (.inr (Mk.any_at (by omega) hbg))])
   ·(try simp only [Bool.or_eq_true, Bool.and_eq_true, Bool.or_eq_false_iff, Bool.and_eq_false_iff, decide_eq_true_eq, decide_eq_false_iff_not, Bool.not_eq_true', Bool.not_eq_false'] at hc3)
    have hbg : Mk.bigB (ls.getD i.toNat kv0) = false := by rw [← Mk.big_eq]; simpa using hc3
    refine wp_skip ?_
    refine hK9 _ _ ?_
    clear hK9
    refine reg hF hS (sq rfl (q_move rfl) <|
      sq rfl (q_addi rfl rfl (by omega)) <|
      sq rfl (q_assign rfl) <|
      sq_end) ?_
    clear hF hS; intro a w hF hS
    refine ⟨(i + 1), ?_, ?_, hF.sub ⟨rfl, rfl, trivial⟩, ?_⟩
    ·(try dsimp only); omega
    ·exact ⟨by omega, by omega, Mk.none_step hi0 hbg hno⟩
    ·exact hS
  ·have hnb : ¬ (4096 < ls.length ∨ ls.any Mk.bigB = true) := fun h => by rcases h with h | h; exact hc1 (by omega); rw [Mk.any_no (fun j hj => hno j (by omega))] at h; cases h
   refine wp_exit ?_
   refine hK5 _ _ ?_
   clear hK5
   refine wp_seq_k ?_; intro K12 hK12
   refine wp_seq_k ?_; intro K13 hK13
   refine reg hF hS (sq rfl (q_assign rfl) <|
     sq_end) ?_
   clear hF hS; intro a w hF hS
   refine hK13 _ _ ?_
   clear hK13
   refine wp_block ?_
   obtain ⟨hs0, hhs0, hS⟩ : ∃ h, h = _ ∧ St _ _ h _ := ⟨_, rfl, hS⟩
   refine wp_loopx (γ := Int) (1) (fun (i : Int) => [(4, vi i)]) [(0, _)] (fun (i : Int) => hs0) (fun (i : Int) => 1 ≤ i ∧ (i ≤ ls.length ∨ i = 1) ∧ Mk.ascN ls i.toNat = true) (fun (i : Int) => (ls.length - i).toNat) (hF.sub ⟨rfl, rfl, trivial⟩) (by subst hhs0; exact hS) (by exact ⟨Int.le_refl _, .inr rfl, rfl⟩) ?_
   clear hF hS; rintro i a w hfact hF hS
   subst hhs0; (try dsimp only at hfact); (try dsimp only at hF); (try dsimp only at hS)
   obtain ⟨hi0, hi1, has⟩ := hfact
   replace hS : St _ [] [] _ := hS
   refine wp_seq_k ?_; intro K14 hK14
   refine wp_seq_k ?_; intro K15 hK15
   refine reg hF hS (sq rfl (q_move rfl) <|
     sq rfl (q_move rfl) <|
     sq rfl (q_len_sl ty24 hb rfl) <|
     sq rfl (q_lti rfl rfl) <|
     sq_end) ?_
   clear hF hS; intro a w hF hS
   refine hK15 _ _ ?_
   clear hK15
   refine wp_ifd hF rfl (fun hc4 => ?_) (fun hc4 => ?_)
   ·refine wp_skip ?_
    refine hK14 _ _ ?_
    clear hK14
    refine wp_seq_k ?_; intro K16 hK16
    refine wp_block ?_
    refine wp_seq_k ?_; intro K17 hK17
    refine regd mixed kQ hF hS (sq rfl (q_move rfl) <|
      sq rfl (q_move rfl) <|
      sq rfl (q_idx_sl ty24 ty75 hb rfl rfl (by omega)) <|
      sq rfl (q_fld_F ty75 hb rfl (by omega) rfl (s' := 0) kQ) <|
      sq rfl (q_ld_FK ty9 hb zin0 rfl rfl (by omega)) <|
      sq rfl (q_move rfl) <|
      sq rfl (q_move rfl) <|
      sq rfl (q_subi rfl rfl (by omega)) <|
      sq rfl (q_idx_sl ty24 ty75 hb rfl rfl (by omega)) <|
      sq rfl (q_fld_F ty75 hb rfl (by omega) rfl (s' := 0) kQ) <|
      sq rfl (q_ld_FK ty9 hb zin0 rfl rfl (by omega)) <|
      sq rfl (q_les rfl rfl) <|
      sq_end) ?_
    clear hF hS; intro a w hF hS
    refine hK17 _ _ ?_
    clear hK17
    refine wp_if hF rfl (fun hc5 => ?_) (fun hc5 => ?_)
    ·have hst : Mk.lt (ls.getD (i - 1).toNat kv0).1 (ls.getD i.toNat kv0).1 = false := by rw [show (Op.bytesLess (ls.getD i.toNat kv0).1 (ls.getD (i - 1).toNat kv0).1 || decide ((ls.getD i.toNat kv0).1 = (ls.getD (i - 1).toNat kv0).1)) = !Mk.lt (ls.getD (i - 1).toNat kv0).1 (ls.getD i.toNat kv0).1 from Mk.le_not] at hc5; simpa using hc5
     refine wp_seq_k ?_; intro K18 hK18
     refine reg hF hS (sq rfl (q_assign rfl) <|
       sq_end) ?_
     clear hF hS; intro a w hF hS
     refine hK18 _ _ ?_
     clear hK18
     refine wp_ret ?_
     exact fn_ret (rs := [.tmp 2]) rfl hF hS (vs := [_]) ⟨rfl, trivial⟩ zQ zQ (by rw [Mk.vE_1 hnb (Mk.asc_stop (by omega) (by omega) hst)])
    ·have hst : Mk.lt (ls.getD (i - 1).toNat kv0).1 (ls.getD i.toNat kv0).1 = true := by rw [show (Op.bytesLess (ls.getD i.toNat kv0).1 (ls.getD (i - 1).toNat kv0).1 || decide ((ls.getD i.toNat kv0).1 = (ls.getD (i - 1).toNat kv0).1)) = !Mk.lt (ls.getD (i - 1).toNat kv0).1 (ls.getD i.toNat kv0).1 from Mk.le_not] at hc5; simpa using hc5
     refine wp_skip ?_
     refine hK16 _ _ ?_
     clear hK16
     refine reg hF hS (sq rfl (q_move rfl) <|
       sq rfl (q_addi rfl rfl (by omega)) <|
       sq rfl (q_assign rfl) <|
       sq_end) ?_
     clear hF hS; intro a w hF hS
     refine ⟨(i + 1), ?_, ?_, hF.sub ⟨rfl, rfl, trivial⟩, ?_⟩
     ·(try dsimp only); omega
     ·exact ⟨by omega, .inl (by omega), Mk.asc_next (by omega) has (fun h => by rw [hst] at h; exact absurd h.2 (by simp))⟩
     ·exact hS
   ·refine wp_exit ?_
    refine hK12 _ _ ?_
    clear hK12
    refine wp_seq_k ?_; intro K19 hK19
    refine reg hF hS (sq rfl (q_assign rfl) <|
      sq_end) ?_
    clear hF hS; intro a w hF hS
    refine hK19 _ _ ?_
    clear hK19
    refine wp_ret ?_
    exact fn_ret (rs := [.tmp 2]) rfl hF hS (vs := [_]) ⟨rfl, trivial⟩ zQ zQ (by rw [Mk.vE_0 hnb (by by_cases h9 : ls.length = 0; rw [h9]; rfl; rw [show ls.length = i.toNat by omega]; exact has)])

set_option maxRecDepth 4000 in
set_option maxHeartbeats 2000000 in
theorem bsf_ct (v : Value) (ls : List Mk.Lf) (k : List UInt8) (has : Mk.Asc ls) (hl : ls.length < 1048576) (w : World) (hb : Sl encF (ph w) v ls) : Ct Tryd.prog 88 [v, vs k, .func (.func 89) (List.nil : List Value).toArray (List.nil : List Value).toArray] w (fun r _ _ => r = .tuple [vi (Mk.frm ls k : Int), .bool (Mk.fnd ls k)].toArray) := by
 refine fn_enter Tryd.func88 rfl Tryd.ntmps88 (Nat.le_of_ble_eq_true rfl) fun a hF hS => ?_
 have hbl := hb.1
 refine wp_seq_k ?_; intro K1 hK1
 refine reg hF hS (sq rfl (q_assign rfl) <|
   sq rfl (q_assign rfl) <|
   sq_end) ?_
 clear hF hS; intro a w hF hS
 refine hK1 _ _ ?_
 clear hK1
 refine wp_seq_k ?_; intro K2 hK2
 refine reg hF hS (sq rfl (q_move rfl) <|
   sq rfl (q_len_sl ty33 hb rfl) <|
   sq rfl (q_assign rfl) <|
   sq_end) ?_
 clear hF hS; intro a w hF hS
 refine hK2 _ _ ?_
 clear hK2
 refine wp_seq_k ?_; intro K3 hK3
 refine reg hF hS (sq rfl (q_move rfl) <|
   sq rfl (q_assign rfl) <|
   sq rfl (q_assign rfl) <|
   sq_end) ?_
 clear hF hS; intro a w hF hS
 refine hK3 _ _ ?_
 clear hK3
 refine wp_seq_k ?_; intro K4 hK4
 refine wp_block ?_
 obtain ⟨hs0, hhs0, hS⟩ : ∃ h, h = _ ∧ St _ _ h _ := ⟨_, rfl, hS⟩
 refine wp_loopx (γ := Int × Int) (0, ls.length) (fun (gg : Int × Int) => match gg with | (i, j) => [(9, vi i), (10, vi j)]) [(0, _), (1, _), (2, _), (8, _)] (fun (gg : Int × Int) => match gg with | (i, j) => hs0) (fun (gg : Int × Int) => match gg with | (i, j) => 0 ≤ i ∧ i ≤ j ∧ j ≤ ls.length ∧ (∀ t, t < i.toNat → Mk.lt (ls.getD t kv0).1 k = true) ∧ (∀ t, j.toNat ≤ t → t < ls.length → Mk.lt (ls.getD t kv0).1 k = false)) (fun (gg : Int × Int) => match gg with | (i, j) => (j - i).toNat) (hF.sub ⟨rfl, rfl, rfl, rfl, rfl, rfl, trivial⟩) (by subst hhs0; exact hS) (by exact ⟨Int.le_refl _, by omega, Int.le_refl _, fun t ht => absurd ht (by simp), fun t h1 h2 => absurd h2 (by simp at h1; omega)⟩) ?_
 clear hF hS; rintro ⟨i, j⟩ a w hfact hF hS
 subst hhs0; (try dsimp only at hfact); (try dsimp only at hF); (try dsimp only at hS)
 obtain ⟨hi0, hi1, hi2, hlo, hhi⟩ := hfact
 replace hS : St _ [] [] _ := hS
 refine wp_seq_k ?_; intro K5 hK5
 refine wp_seq_k ?_; intro K6 hK6
 refine reg hF hS (sq rfl (q_move rfl) <|
   sq rfl (q_move rfl) <|
   sq rfl (q_lti rfl rfl) <|
   sq_end) ?_
 clear hF hS; intro a w hF hS
 refine hK6 _ _ ?_
 clear hK6
 refine wp_ifd hF rfl (fun hc1 => ?_) (fun hc1 => ?_)
 ·have hm1 : i ≤ (i + j) / 2 := by omega
  have hm2 : (i + j) / 2 < j := by omega
  refine wp_skip ?_
  refine hK5 _ _ ?_
  clear hK5
  refine wp_block ?_
  refine wp_seq_k ?_; intro K7 hK7
  refine reg hF hS (sq rfl (q_move rfl) <|
    sq rfl (q_move rfl) <|
    sq rfl (q_addi rfl rfl (by omega)) <|
    sq rfl (q_cv_iq ty3 ty160 rfl) <|
    sq rfl (q_shrq rfl rfl (by omega)) <|
    sq rfl (q_cv_qi ty160 ty3 rfl) <|
    sq rfl (q_assign rfl) <|
    sq_end) ?_
  clear hF hS; intro a w hF hS
  rw [Mk.mid_eq (by omega) (by omega)] at hF
  refine hK7 _ _ ?_
  clear hK7
  refine wp_seq_k ?_; intro K8 hK8
  refine reg hF hS (sq rfl (q_move rfl) <|
    sq rfl (q_move rfl) <|
    sq rfl (q_move rfl) <|
    sq rfl (q_idx_sl ty33 ty41 hb rfl rfl (by omega)) <|
    sq rfl (q_ld_F ty41 hb zin0 rfl rfl (by omega)) <|
    sq rfl (q_move rfl) <|
    sq rfl (q_callv fn89 rfl rfl (by exact fun w hS => from1_ct (ls.getD ((i + j) / 2).toNat kv0) _ w ) (fun _ _ _ h => h)) <|
    sq rfl (q_lti rfl rfl) <|
    sq_end) ?_
  clear hF hS; intro a w hF hS
  refine hK8 _ _ ?_
  clear hK8
  refine wp_ifd hF rfl (fun hc2 => ?_) (fun hc2 => ?_)
  ·have hlt := Mk.cmp_neg.1 hc2
   refine reg hF hS (sq rfl (q_move rfl) <|
     sq rfl (q_addi rfl rfl (by omega)) <|
     sq rfl (q_assign rfl) <|
     sq_end) ?_
   clear hF hS; intro a w hF hS
   refine ⟨((i + j) / 2 + 1, j), ?_, ?_, hF.sub ⟨rfl, rfl, rfl, rfl, rfl, rfl, trivial⟩, ?_⟩
   ·(try dsimp only); omega
   ·exact ⟨by omega, by omega, hi2, by rw [show ((i + j) / 2 + 1).toNat = ((i + j) / 2).toNat + 1 by omega]; exact Mk.bs_lt has (by omega) hlt, hhi⟩
   ·exact hS
  ·have hlt : Mk.lt (ls.getD ((i + j) / 2).toNat kv0).1 k = false := by
    cases h9 : Mk.lt (ls.getD ((i + j) / 2).toNat kv0).1 k with
    | false => rfl
    | true => exact absurd (Mk.cmp_neg.2 h9) hc2
   refine reg hF hS (sq rfl (q_move rfl) <|
     sq rfl (q_assign rfl) <|
     sq_end) ?_
   clear hF hS; intro a w hF hS
   refine ⟨(i, (i + j) / 2), ?_, ?_, hF.sub ⟨rfl, rfl, rfl, rfl, rfl, rfl, trivial⟩, ?_⟩
   ·(try dsimp only); omega
   ·exact ⟨hi0, hm1, by omega, hlo, Mk.bs_ge has (by omega) hlt⟩
   ·exact hS
 ·obtain rfl : i = j := by omega
  have hfr : Mk.frm ls k = i.toNat := Mk.frm_at (by omega) hlo hhi
  have hie : i = (Mk.frm ls k : Int) := by omega
  refine wp_exit ?_
  refine hK4 _ _ ?_
  clear hK4
  refine wp_seq_k ?_; intro K9 hK9
  refine regl ?_
  refine wpl_sq hF hS (sq rfl (q_move rfl) <|
    sq rfl (q_move rfl) <|
    sq rfl (q_move rfl) <|
    sq rfl (q_lti rfl rfl) <|
    sq rfl (q_move rfl) <|
    sq_end) ?_
  clear hF hS; intro a w hF hS
  refine wpl_and 4 39 8 hF hS rfl rfl rfl rfl rfl (fun hg => have hg := (by first | exact of_decide_eq_true hg | exact hg); sq_go 39 rfl rfl rfl (q_move rfl) <|
    sq_go 39 rfl rfl rfl (q_move rfl) <|
    sq_go 39 rfl rfl rfl (q_move rfl) <|
    sq_go 39 rfl rfl rfl (q_idx_sl ty33 ty41 hb rfl rfl (by omega)) <|
    sq_go 39 rfl rfl rfl (q_ld_F ty41 hb zin0 rfl rfl (by omega)) <|
    sq_go 39 rfl rfl rfl (q_move rfl) <|
    sq_go 39 rfl rfl rfl (q_callv fn89 rfl rfl (by exact fun w hS => from1_ct (ls.getD i.toNat kv0) _ w ) (fun _ _ _ h => h)) <|
    sq_go 39 rfl rfl rfl (q_eqi rfl rfl) <|
    sq_end) rfl rfl ?_
  clear hF hS; intro a w hF hS
  refine wpl_sq hF hS (sq rfl (q_assign rfl) <|
    sq rfl (q_assign rfl) <|
    sq_end) ?_
  clear hF hS; intro a w hF hS
  refine wpList_nil ?_
  refine hK9 _ _ ?_
  clear hK9
  refine wp_ret ?_
  exact fn_ret (rs := [.tmp 6, .tmp 7]) rfl hF hS (vs := [_, _]) ⟨rfl, rfl, trivial⟩ zQ zQ (by rw [← hie, Mk.fnd_eq hi0 hie])

set_option maxRecDepth 4000 in
set_option maxHeartbeats 2000000 in
theorem from_ct (v : Value) (ls : List Mk.Lf) (k : List UInt8) (has : Mk.Asc ls) (hl : ls.length < 1048576) (w : World) (hb : Sl encF (ph w) v ls) : Ct Tryd.prog 56 [v, vs k] w (fun r _ _ => r = vi (Mk.frm ls k : Int)) := by
 refine fn_enter Tryd.func56 rfl Tryd.ntmps56 (Nat.le_of_ble_eq_true rfl) fun a hF hS => ?_
 have hbl := hb.1
 refine wp_seq_k ?_; intro K1 hK1
 refine reg hF hS (sq rfl (q_assign rfl) <|
   sq_end) ?_
 clear hF hS; intro a w hF hS
 refine hK1 _ _ ?_
 clear hK1
 refine wp_seq_k ?_; intro K2 hK2
 refine reg hF hS (sq rfl (q_move rfl) <|
   sq rfl (q_move rfl) <|
   sq rfl (q_call fn88 rfl (fun w hS => bsf_ct _ _ _ (by first | with_reducible assumption | omega) (by first | with_reducible assumption | omega) w (Sl.mono (hS.le zin0) hb)) (fun _ _ _ h => h)) <|
   sq rfl (q_move rfl) <|
   sq rfl (q_extract rfl rfl) <|
   sq rfl (q_extract rfl rfl) <|
   sq rfl (q_assign rfl) <|
   sq rfl (q_assign rfl) <|
   sq_end) ?_
 clear hF hS; intro a w hF hS
 refine hK2 _ _ ?_
 clear hK2
 refine wp_seq_k ?_; intro K3 hK3
 refine reg hF hS (sq rfl (q_move rfl) <|
   sq rfl (q_assign rfl) <|
   sq_end) ?_
 clear hF hS; intro a w hF hS
 refine hK3 _ _ ?_
 clear hK3
 refine wp_ret ?_
 exact fn_ret (rs := [.tmp 4]) rfl hF hS (vs := [_]) ⟨rfl, trivial⟩ zQ zQ (rfl)

set_option maxRecDepth 4000 in
set_option maxHeartbeats 2000000 in
theorem middle_ct (a b : Int) (n : Nat) (ha : 0 ≤ a ∧ a ≤ 1099511627776) (hn : b = a + n) (hn2 : 2 ≤ n) (hn9 : n ≤ 1099511627776) (w : World) : Ct Tryd.prog 81 [vi a, vi b] w (fun r _ _ => r = vi (a + Mk.half n)) := by
 refine fn_enter Tryd.func81 rfl Tryd.ntmps81 (Nat.le_of_ble_eq_true rfl) fun a hF hS => ?_
 refine wp_seq_k ?_; intro K1 hK1
 refine reg hF hS (sq rfl (q_assign rfl) <|
   sq_end) ?_
 clear hF hS; intro a w hF hS
 refine hK1 _ _ ?_
 clear hK1
 refine wp_seq_k ?_; intro K2 hK2
 refine reg hF hS (sq rfl (q_assign rfl) <|
   sq_end) ?_
 clear hF hS; intro a w hF hS
 refine hK2 _ _ ?_
 clear hK2
 refine wp_seq_k ?_; intro K3 hK3
 refine wp_block ?_
 obtain ⟨hs0, hhs0, hS⟩ : ∃ h, h = _ ∧ St _ _ h _ := ⟨_, rfl, hS⟩
 refine wp_loopx (γ := Int × Nat) (1, 0) (fun (gg : Int × Nat) => match gg with | (m, j) => [(5, vi m)]) [(0, _), (1, _)] (fun (gg : Int × Nat) => match gg with | (m, j) => hs0) (fun (gg : Int × Nat) => match gg with | (m, j) => m = ((2 ^ j : Nat) : Int) ∧ (j = 0 ∨ 2 ^ j < n) ∧ 1 ≤ m ∧ m ≤ 1099511627776) (fun (gg : Int × Nat) => match gg with | (m, j) => (2 * 1099511627776 - m).toNat) (hF.sub ⟨rfl, rfl, rfl, trivial⟩) (by subst hhs0; exact hS) (by exact ⟨rfl, .inl rfl, by omega, by omega⟩) ?_
 clear hF hS; rintro ⟨m, j⟩ a w hfact hF hS
 subst hhs0; (try dsimp only at hfact); (try dsimp only at hF); (try dsimp only at hS)
 obtain ⟨hm, hj, hm1, hm2⟩ := hfact
 replace hS : St _ [] [] _ := hS
 refine wp_seq_k ?_; intro K4 hK4
 refine wp_seq_k ?_; intro K5 hK5
 refine reg hF hS (sq rfl (q_move rfl) <|
   sq rfl (q_muli rfl rfl (by omega)) <|
   sq rfl (q_move rfl) <|
   sq rfl (q_move rfl) <|
   sq rfl (q_subi rfl rfl (by omega)) <|
   sq rfl (q_lti rfl rfl) <|
   sq_end) ?_
 clear hF hS; intro a w hF hS
 refine hK5 _ _ ?_
 clear hK5
 refine wp_ifd hF rfl (fun hc1 => ?_) (fun hc1 => ?_)
 ·refine wp_skip ?_
  refine hK4 _ _ ?_
  clear hK4
  refine wp_block ?_
  refine reg hF hS (sq rfl (q_move rfl) <|
    sq rfl (q_muli rfl rfl (by omega)) <|
    sq rfl (q_assign rfl) <|
    sq_end) ?_
  clear hF hS; intro a w hF hS
  refine ⟨(m * 2, j + 1), ?_, ?_, hF.sub ⟨rfl, rfl, rfl, trivial⟩, ?_⟩
  ·(try dsimp only); omega
  ·exact ⟨by rw [Nat.pow_succ, hm]; push_cast; omega, .inr (by rw [Nat.pow_succ]; omega), by omega, by omega⟩
  ·exact hS
 ·have hmh := Mk.pow_half hm hj (by omega) hn2
  refine wp_exit ?_
  refine hK3 _ _ ?_
  clear hK3
  refine wp_seq_k ?_; intro K6 hK6
  refine reg hF hS (sq rfl (q_move rfl) <|
    sq rfl (q_move rfl) <|
    sq rfl (q_addi rfl rfl (by omega)) <|
    sq rfl (q_assign rfl) <|
    sq_end) ?_
  clear hF hS; intro a w hF hS
  refine hK6 _ _ ?_
  clear hK6
  refine wp_ret ?_
  exact fn_ret (rs := [.tmp 4]) rfl hF hS (vs := [_]) ⟨rfl, trivial⟩ zQ zQ (by rw [hmh])

set_option maxRecDepth 4000 in
set_option maxHeartbeats 2000000 in
theorem half_ct (b : Int) (n : Nat) (hn : b = n) (hn2 : 2 ≤ n) (hn9 : n ≤ 1099511627776) (w : World) : Ct Tryd.prog 106 [vi b] w (fun r _ _ => r = vi (Mk.half n)) := by
 refine fn_enter Tryd.func106 rfl Tryd.ntmps106 (Nat.le_of_ble_eq_true rfl) fun a hF hS => ?_
 refine wp_seq_k ?_; intro K1 hK1
 refine reg hF hS (sq rfl (q_assign rfl) <|
   sq_end) ?_
 clear hF hS; intro a w hF hS
 refine hK1 _ _ ?_
 clear hK1
 refine wp_seq_k ?_; intro K2 hK2
 refine reg hF hS (sq rfl (q_assign rfl) <|
   sq_end) ?_
 clear hF hS; intro a w hF hS
 refine hK2 _ _ ?_
 clear hK2
 refine wp_seq_k ?_; intro K3 hK3
 refine wp_block ?_
 obtain ⟨hs0, hhs0, hS⟩ : ∃ h, h = _ ∧ St _ _ h _ := ⟨_, rfl, hS⟩
 refine wp_loopx (γ := Int × Nat) (1, 0) (fun (gg : Int × Nat) => match gg with | (m, j) => [(3, vi m)]) [(0, _)] (fun (gg : Int × Nat) => match gg with | (m, j) => hs0) (fun (gg : Int × Nat) => match gg with | (m, j) => m = ((2 ^ j : Nat) : Int) ∧ (j = 0 ∨ 2 ^ j < n) ∧ 1 ≤ m ∧ m ≤ 1099511627776) (fun (gg : Int × Nat) => match gg with | (m, j) => (2 * 1099511627776 - m).toNat) (hF.sub ⟨rfl, rfl, trivial⟩) (by subst hhs0; exact hS) (by exact ⟨rfl, .inl rfl, by omega, by omega⟩) ?_
 clear hF hS; rintro ⟨m, j⟩ a w hfact hF hS
 subst hhs0; (try dsimp only at hfact); (try dsimp only at hF); (try dsimp only at hS)
 obtain ⟨hm, hj, hm1, hm2⟩ := hfact
 replace hS : St _ [] [] _ := hS
 refine wp_seq_k ?_; intro K4 hK4
 refine wp_seq_k ?_; intro K5 hK5
 refine reg hF hS (sq rfl (q_move rfl) <|
   sq rfl (q_muli rfl rfl (by omega)) <|
   sq rfl (q_move rfl) <|
   sq rfl (q_lti rfl rfl) <|
   sq_end) ?_
 clear hF hS; intro a w hF hS
 refine hK5 _ _ ?_
 clear hK5
 refine wp_ifd hF rfl (fun hc1 => ?_) (fun hc1 => ?_)
 ·refine wp_skip ?_
  refine hK4 _ _ ?_
  clear hK4
  refine wp_block ?_
  refine reg hF hS (sq rfl (q_move rfl) <|
    sq rfl (q_muli rfl rfl (by omega)) <|
    sq rfl (q_assign rfl) <|
    sq_end) ?_
  clear hF hS; intro a w hF hS
  refine ⟨(2 * m, j + 1), ?_, ?_, hF.sub ⟨rfl, rfl, trivial⟩, ?_⟩
  ·(try dsimp only); omega
  ·exact ⟨by rw [Nat.pow_succ, hm]; push_cast; omega, .inr (by rw [Nat.pow_succ]; omega), by omega, by omega⟩
  ·exact hS
 ·have hmh := Mk.pow_half hm hj (by omega) hn2
  refine wp_exit ?_
  refine hK3 _ _ ?_
  clear hK3
  refine wp_seq_k ?_; intro K6 hK6
  refine reg hF hS (sq rfl (q_move rfl) <|
    sq rfl (q_assign rfl) <|
    sq_end) ?_
  clear hF hS; intro a w hF hS
  refine hK6 _ _ ?_
  clear hK6
  refine wp_ret ?_
  exact fn_ret (rs := [.tmp 2]) rfl hF hS (vs := [_]) ⟨rfl, trivial⟩ zQ zQ (by rw [hmh])
end Go.Proofs.YtdojfnigffeblaaDoor
