/- A text of a proof over this seat: walks over the program's functions and the plain laws that they need. -/
import Derived.Test.YtefjpigmgmbghaaHg1
import Derived.Test.YtefjpigmgmbghaaGuA
import Derived.Test.YtefjpigmgmbghaaFwB
set_option linter.all false
namespace Go.Proofs.Ytefjpigmgmbghaa
open Go.Fw
theorem ty26 : Tf Try.prog 26 (.struct #[⟨ "Names", 23, 0, false, "", "", 0⟩, ⟨ "Sets", 22, 1, false, "", "", 24⟩, ⟨ "Builds", 24, 2, false, "", "", 48⟩]) 3 72 (.agg ([Value.slice none 0 0, Value.slice none 0 0, Value.slice none 0 0]).toArray) := ⟨Try.underlying26, by kernel_rfl⟩
theorem ty42 : Tf Try.prog 42 (.struct #[⟨ "Names", 23, 0, false, "", "", 0⟩, ⟨ "Sets", 22, 1, false, "", "", 24⟩, ⟨ "Builds", 24, 2, false, "", "", 48⟩]) 3 72 (.agg ([Value.slice none 0 0, Value.slice none 0 0, Value.slice none 0 0]).toArray) := ⟨Try.underlying42, by kernel_rfl⟩
theorem fn40 : FnOk Try.prog 40 := ⟨_, Try.func40, rfl, by kernel_rfl⟩

set_option maxRecDepth 4000 in
set_option maxHeartbeats 2000000 in
theorem arnd_ct (n m : Int) (hm : 1 ≤ m) (hn : -9223372036854775808 ≤ n ∧ n ≤ 9223372036854775807) (w : World) : Ct Try.prog 40 [vi n, vi m] w (fun r _ _ => r = vi (Gu.arnd n m)) := by
 refine fn_enter Try.func40 rfl Try.ntmps40 (Nat.le_of_ble_eq_true rfl) fun a hF hS => ?_
 refine wp_seq_k ?_; intro K1 hK1
 refine reg hF hS (sq rfl (q_assign rfl) <|
   sq_end) ?_
 clear hF hS; intro a w hF hS
 refine hK1 _ _ ?_
 clear hK1
 obtain ⟨hs0, hhs0, hS⟩ : ∃ h, h = _ ∧ St _ _ h _ := ⟨_, rfl, hS⟩
 refine wp_cutx (γ := Int) (fun (c : Int) => [(0, vi c)]) [(1, _)] (fun (c : Int) => hs0) (fun (c : Int) => c = (if n < 0 then -(n + 1) else n) ∧ 0 ≤ c) (hF.sub ⟨rfl, trivial⟩) hS ?_ ?_
 ·subst hhs0
  refine wp_seq_k ?_; intro K2 hK2
  refine reg hF hS (sq rfl (q_move rfl) <|
    sq rfl (q_lti rfl rfl) <|
    sq_end) ?_
  clear hF hS; intro a w hF hS
  refine hK2 _ _ ?_
  clear hK2
  refine wp_ifd hF rfl (fun hc1 => ?_) (fun hc1 => ?_)
  ·refine reg hF hS (sq rfl (q_move rfl) <|
     sq rfl (q_addi rfl rfl (by omega)) <|
     sq rfl (q_negi rfl (by omega)) <|
     sq rfl (q_assign rfl) <|
     sq_end) ?_
   clear hF hS; intro a w hF hS
   refine ⟨(-(n + 1)), ?_, hF.sub ⟨rfl, rfl, trivial⟩, ?_⟩
   ·exact ⟨by rw [if_pos hc1], by omega⟩
   ·exact hS
  ·refine wp_skip ?_
   refine ⟨(n), ?_, hF.sub ⟨rfl, rfl, trivial⟩, ?_⟩
   ·exact ⟨by rw [if_neg hc1], by omega⟩
   ·exact hS
 clear hF hS; rintro c a w hfact hF hS
 subst hhs0; (try dsimp only at hfact); (try dsimp only at hF); (try dsimp only at hS)
 obtain ⟨hc, hc0⟩ := hfact
 replace hS : St _ [] [] _ := hS
 refine wp_seq_k ?_; intro K3 hK3
 refine reg hF hS (sq rfl (q_move rfl) <|
   sq rfl (q_move rfl) <|
   sq rfl (q_remi rfl rfl (by omega)) <|
   sq rfl (q_assign rfl) <|
   sq_end) ?_
 clear hF hS; intro a w hF hS
 refine hK3 _ _ ?_
 clear hK3
 refine wp_ret ?_
 exact fn_ret (rs := [.tmp 4]) rfl hF hS (vs := [_]) ⟨rfl, trivial⟩ zQ zQ (by subst hc; rfl)

set_option maxRecDepth 4000 in
set_option maxHeartbeats 2000000 in
theorem at_ct (v : Value) (l : List Int) (i m : Int) (hm : 1 ≤ m) (w : World) (hb : Sl encI (ph w) v l) : Ct Try.prog 21 [v, vi i, vi m] w (fun r _ _ => r = vi (Gu.atN l i m)) := by
 refine fn_enter Try.func21 rfl Try.ntmps21 (Nat.le_of_ble_eq_true rfl) fun a hF hS => ?_
 have hbl := hb.1
 refine wp_seq_k ?_; intro K1 hK1
 refine reg hF hS (sq rfl (q_assign rfl) <|
   sq_end) ?_
 clear hF hS; intro a w hF hS
 refine hK1 _ _ ?_
 clear hK1
 refine wp_seq_k ?_; intro K2 hK2
 refine wp_seq_k ?_; intro K3 hK3
 refine regl ?_
 refine wpl_sq hF hS (sq rfl (q_move rfl) <|
   sq rfl (q_lti rfl rfl) <|
   sq rfl (q_move rfl) <|
   sq_end) ?_
 clear hF hS; intro a w hF hS
 refine wpl_or 2 9 4 hF hS rfl rfl rfl rfl rfl (fun hg => have hg := (by first | exact of_decide_eq_false hg | exact hg); sq_go 9 rfl rfl rfl (q_move rfl) <|
   sq_go 9 rfl rfl rfl (q_move rfl) <|
   sq_go 9 rfl rfl rfl (q_len_sl ty22 hb rfl) <|
   sq_go 9 rfl rfl rfl (q_gei rfl rfl) <|
   sq_end) rfl rfl ?_
 clear hF hS; intro a w hF hS
 refine wpList_nil ?_
 refine hK3 _ _ ?_
 clear hK3
 refine wp_if hF rfl (fun hc1 => ?_) (fun hc1 => ?_)
 ·(try simp only [Bool.or_eq_true, Bool.and_eq_true, Bool.or_eq_false_iff, Bool.and_eq_false_iff, decide_eq_true_eq, decide_eq_false_iff_not, Bool.not_eq_true', Bool.not_eq_false'] at hc1)
  refine wp_seq_k ?_; intro K4 hK4
  refine reg hF hS (sq rfl (q_assign rfl) <|
    sq_end) ?_
  clear hF hS; intro a w hF hS
  refine hK4 _ _ ?_
  clear hK4
  refine wp_ret ?_
  exact fn_ret (rs := [.tmp 6]) rfl hF hS (vs := [_]) ⟨rfl, trivial⟩ zQ zQ (by unfold Gu.atN; rw [if_pos (by simpa using hc1)])
 ·(try simp only [Bool.or_eq_true, Bool.and_eq_true, Bool.or_eq_false_iff, Bool.and_eq_false_iff, decide_eq_true_eq, decide_eq_false_iff_not, Bool.not_eq_true', Bool.not_eq_false'] at hc1)
  have hir : 0 ≤ i ∧ i < l.length := by simp at hc1; omega
  have hrg := sl_rng hb _ (getD_mem (k := i.toNat) (by omega))
  refine wp_skip ?_
  refine hK2 _ _ ?_
  clear hK2
  refine wp_seq_k ?_; intro K5 hK5
  refine reg hF hS (sq rfl (q_move rfl) <|
    sq rfl (q_move rfl) <|
    sq rfl (q_idx_sl ty22 ty3 hb rfl rfl (by omega)) <|
    sq rfl (q_ld_I ty3 hb zin0 rfl rfl (by omega)) <|
    sq rfl (q_move rfl) <|
    sq rfl (q_call fn40 rfl (fun w hS => arnd_ct _ _ (by omega) (by omega) w ) (fun _ _ _ h => h)) <|
    sq rfl (q_assign rfl) <|
    sq_end) ?_
  clear hF hS; intro a w hF hS
  refine hK5 _ _ ?_
  clear hK5
  refine wp_ret ?_
  exact fn_ret (rs := [.tmp 6]) rfl hF hS (vs := [_]) ⟨rfl, trivial⟩ zQ zQ (by unfold Gu.atN; rw [if_neg (by omega)])

set_option maxRecDepth 4000 in
set_option maxHeartbeats 2000000 in
theorem lix_ct (xN xS xB : Value) (xs : List Int) (xb : List Bool) (n : Int) (w : World) (hxn : xN.oneCell' = true) (hxs : Sl encI (ph w) xS xs) (hxb : Sl encT (ph w) xB xb) : Ct Try.prog 74 [.agg [xN, xS, xB].toArray, vi n] w (fun r _ _ => r = vi (Gu.ixF (fun y => decide (n = y)) xs)) := by
 refine fn_enter Try.func74 rfl Try.ntmps74 (Nat.le_of_ble_eq_true rfl) fun a hF hS => ?_
 have hsl := hxs.1
 refine wp_seq_k ?_; intro K1 hK1
 refine regl ?_
 refine wpl_ef hF hS rfl (ef_boxA rfl) ?_
 clear hF hS; rintro _ _ _ a w ⟨b1, rfl, rfl, rfl⟩ hF hS
 refine wpl_sq hF hS (sq rfl (q_assign rfl) <|
   sq_end) ?_
 clear hF hS; intro a w hF hS
 refine wpList_nil ?_
 refine hK1 _ _ ?_
 clear hK1
 refine wp_seq_k ?_; intro K2 hK2
 refine reg hF hS (sq rfl (q_fieldAddr ty42 rfl rfl (s' := 0) kQ) <|
   sq rfl (q_ld_blk1 ty22 0 rfl rfl rfl rfl) <|
   sq rfl (q_move rfl) <|
   sq rfl (q_call fn55 rfl (fun w hS => ix_ct _ _ _ w (Sl.mono (hS.le zin0) hxs)) (fun _ _ _ h => h)) <|
   sq rfl (q_assign rfl) <|
   sq_end) ?_
 clear hF hS; intro a w hF hS
 refine hK2 _ _ ?_
 clear hK2
 refine wp_ret ?_
 exact fn_ret (rs := [.tmp 4]) rfl hF hS (vs := [_]) ⟨rfl, trivial⟩ zQ zQ (rfl)

set_option maxRecDepth 4000 in
set_option maxHeartbeats 2000000 in
theorem rix_ct (xN xS xB : Value) (xs : List Int) (xb : List Bool) (n : Int) (w : World) (hxn : xN.oneCell' = true) (hxs : Sl encI (ph w) xS xs) (hxb : Sl encT (ph w) xB xb) : Ct Try.prog 45 [.agg [xN, xS, xB].toArray, vi n] w (fun r _ _ => r = vi (Gu.ixF (fun y => decide (n = y)) xs)) := by
 refine fn_enter Try.func45 rfl Try.ntmps45 (Nat.le_of_ble_eq_true rfl) fun a hF hS => ?_
 have hsl := hxs.1
 refine wp_seq_k ?_; intro K1 hK1
 refine regl ?_
 refine wpl_ef hF hS rfl (ef_boxA rfl) ?_
 clear hF hS; rintro _ _ _ a w ⟨b1, rfl, rfl, rfl⟩ hF hS
 refine wpl_sq hF hS (sq rfl (q_assign rfl) <|
   sq_end) ?_
 clear hF hS; intro a w hF hS
 refine wpList_nil ?_
 refine hK1 _ _ ?_
 clear hK1
 refine wp_seq_k ?_; intro K2 hK2
 refine wp_seq_k ?_; intro K3 hK3
 refine reg hF hS (sq rfl (q_assign rfl) <|
   sq_end) ?_
 clear hF hS; intro a w hF hS
 refine hK3 _ _ ?_
 clear hK3
 refine wp_block ?_
 obtain ⟨hs0, hhs0, hS⟩ : ∃ h, h = _ ∧ St _ _ h _ := ⟨_, rfl, hS⟩
 refine wp_loopx (γ := Int) (0) (fun (i : Int) => [(5, vi i)]) [(1, _), (2, _)] (fun (i : Int) => hs0) (fun (i : Int) => 0 ≤ i ∧ i ≤ xs.length ∧ ∀ j, j < i.toNat → (fun y => decide (n = y)) (xs.getD j 0) = false) (fun (i : Int) => (xs.length - i).toNat) (hF.sub ⟨rfl, rfl, rfl, trivial⟩) (by subst hhs0; exact hS) (by exact ⟨Int.le_refl _, by omega, fun j hj => absurd hj (by simp)⟩) ?_
 clear hF hS; rintro i a w hfact hF hS
 subst hhs0; (try dsimp only at hfact); (try dsimp only at hF); (try dsimp only at hS)
 obtain ⟨hi0, hi1, hno⟩ := hfact
 replace hS : St _ [] [_] _ := hS
 refine wp_seq_k ?_; intro K4 hK4
 refine wp_seq_k ?_; intro K5 hK5
 refine reg hF hS (sq rfl (q_move rfl) <|
   sq rfl (q_fieldAddr ty26 rfl rfl (s' := 0) kQ) <|
   sq rfl (q_ld_blk1 ty22 0 rfl rfl rfl rfl) <|
   sq rfl (q_len_sl ty22 hxs rfl) <|
   sq rfl (q_lti rfl rfl) <|
   sq_end) ?_
 clear hF hS; intro a w hF hS
 refine hK5 _ _ ?_
 clear hK5
 refine wp_ifd hF rfl (fun hc1 => ?_) (fun hc1 => ?_)
 ·refine wp_skip ?_
  refine hK4 _ _ ?_
  clear hK4
  refine wp_seq_k ?_; intro K6 hK6
  refine wp_block ?_
  refine wp_seq_k ?_; intro K7 hK7
  refine reg hF hS (sq rfl (q_fieldAddr ty26 rfl rfl (s' := 0) kQ) <|
    sq rfl (q_ld_blk1 ty22 0 rfl rfl rfl rfl) <|
    sq rfl (q_move rfl) <|
    sq rfl (q_idx_sl ty22 ty3 hxs rfl rfl (by omega)) <|
    sq rfl (q_ld_I ty3 hxs zin0 rfl rfl (by omega)) <|
    sq rfl (q_move rfl) <|
    sq rfl (q_eqi rfl rfl) <|
    sq_end) ?_
  clear hF hS; intro a w hF hS
  refine hK7 _ _ ?_
  clear hK7
  refine wp_ifd hF rfl (fun hc2 => ?_) (fun hc2 => ?_)
  ·refine wp_seq_k ?_; intro K8 hK8
   refine reg hF hS (sq rfl (q_move rfl) <|
     sq rfl (q_assign rfl) <|
     sq_end) ?_
   clear hF hS; intro a w hF hS
   refine hK8 _ _ ?_
   clear hK8
   refine wp_ret ?_
   exact fn_ret (rs := [.tmp 4]) rfl hF hS (vs := [_]) ⟨rfl, trivial⟩ zQ zQ (by rw [Gu.ixF_at (i := i.toNat) (by omega) (decide_eq_true hc2.symm) hno, Int.toNat_of_nonneg hi0])
  ·refine wp_skip ?_
   refine hK6 _ _ ?_
   clear hK6
   refine reg hF hS (sq rfl (q_move rfl) <|
     sq rfl (q_addi rfl rfl (by omega)) <|
     sq rfl (q_assign rfl) <|
     sq_end) ?_
   clear hF hS; intro a w hF hS
   refine ⟨(i + 1), ?_, ?_, hF.sub ⟨rfl, rfl, rfl, trivial⟩, ?_⟩
   ·(try dsimp only); omega
   ·exact ⟨by omega, by omega, Gu.none_step (p := (fun y => decide (n = y))) hi0 (decide_eq_false (fun h9 => hc2 h9.symm)) hno⟩
   ·exact hS
 ·refine wp_exit ?_
  refine hK2 _ _ ?_
  clear hK2
  refine wp_seq_k ?_; intro K9 hK9
  refine reg hF hS (sq rfl (q_assign rfl) <|
    sq_end) ?_
  clear hF hS; intro a w hF hS
  refine hK9 _ _ ?_
  clear hK9
  refine wp_ret ?_
  exact fn_ret (rs := [.tmp 4]) rfl hF hS (vs := [_]) ⟨rfl, trivial⟩ zQ zQ (by rw [Gu.ixF_no (fun j hj => hno j (by omega))])
end Go.Proofs.Ytefjpigmgmbghaa
