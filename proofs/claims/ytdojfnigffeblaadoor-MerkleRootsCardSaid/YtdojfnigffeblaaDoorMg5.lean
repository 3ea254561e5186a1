/- A text of a proof over this seat: walks over the program's functions and the plain laws that they need. -/
import Derived.Test.YtdojfnigffeblaaDoorMw6
import Derived.Test.YtdojfnigffeblaaDoorGuA
import Derived.Test.YtdojfnigffeblaaDoorFwB
set_option linter.all false
namespace Go.Proofs.YtdojfnigffeblaaDoor
open Go.Fw
theorem fn17 : FnOk Tryd.prog 17 := ⟨_, Tryd.func17, rfl, by kernel_rfl⟩

set_option maxRecDepth 4000 in
set_option maxHeartbeats 2000000 in
theorem arnd_ct (n m : Int) (hm : 1 ≤ m) (hn : -9223372036854775808 ≤ n ∧ n ≤ 9223372036854775807) (w : World) : Ct Tryd.prog 17 [vi n, vi m] w (fun r _ _ => r = vi (Gu.arnd n m)) := by
 refine fn_enter Tryd.func17 rfl Tryd.ntmps17 (Nat.le_of_ble_eq_true rfl) fun a hF hS => ?_
 refine wp_seq_k ?_; intro K1 hK1
 refine reg hF hS (sq rfl (q_assign rfl) <|
   sq_end) ?_
 clear hF hS; intro a w hF hS
 refine hK1 _ _ ?_
 clear hK1
 obtain ⟨hs0, hhs0, hS⟩ : ∃ h, h = _ ∧ St _ _ h _ := ⟨_, rfl, hS⟩
 refine wp_cutx (γ := Int) (fun (c : Int) => [(0, vi c)]) [(1, _)] (fun (c : Int) => hs0) (fun (c : Int) => c = (if n < 0 then -(n + 1) else n) ∧ 0 ≤ c) (hF.sub ⟨rfl, trivial⟩) hS ?_ ?_
 ·subst hhs0
  refine wp_seq_k ?_; intro K2 hK2
  refine reg hF hS (sq rfl (q_move rfl) <|
    sq rfl (q_lti rfl rfl) <|
    sq_end) ?_
  clear hF hS; intro a w hF hS
  refine hK2 _ _ ?_
  clear hK2
  refine wp_ifd hF rfl (fun hc1 => ?_) (fun hc1 => ?_)
  ·refine reg hF hS (sq rfl (q_move rfl) <|
     sq rfl (q_addi rfl rfl (by omega)) <|
     sq rfl (q_negi rfl (by omega)) <|
     sq rfl (q_assign rfl) <|
     sq_end) ?_
   clear hF hS; intro a w hF hS
   refine ⟨(-(n + 1)), ?_, hF.sub ⟨rfl, rfl, trivial⟩, ?_⟩
   ·exact ⟨by rw [if_pos hc1], by omega⟩
   ·exact hS
  ·refine wp_skip ?_
   refine ⟨(n), ?_, hF.sub ⟨rfl, rfl, trivial⟩, ?_⟩
   ·exact ⟨by rw [if_neg hc1], by omega⟩
   ·exact hS
 clear hF hS; rintro c a w hfact hF hS
 subst hhs0; (try dsimp only at hfact); (try dsimp only at hF); (try dsimp only at hS)
 obtain ⟨hc, hc0⟩ := hfact
 replace hS : St _ [] [] _ := hS
 refine wp_seq_k ?_; intro K3 hK3
 refine reg hF hS (sq rfl (q_move rfl) <|
   sq rfl (q_move rfl) <|
   sq rfl (q_remi rfl rfl (by omega)) <|
   sq rfl (q_assign rfl) <|
   sq_end) ?_
 clear hF hS; intro a w hF hS
 refine hK3 _ _ ?_
 clear hK3
 refine wp_ret ?_
 exact fn_ret (rs := [.tmp 4]) rfl hF hS (vs := [_]) ⟨rfl, trivial⟩ zQ zQ (by subst hc; rfl)

set_option maxRecDepth 4000 in
set_option maxHeartbeats 2000000 in
theorem at_ct (v : Value) (l : List Int) (i m : Int) (hm : 1 ≤ m) (w : World) (hb : Sl encI (ph w) v l) : Ct Tryd.prog 48 [v, vi i, vi m] w (fun r _ _ => r = vi (Gu.atN l i m)) := by
 refine fn_enter Tryd.func48 rfl Tryd.ntmps48 (Nat.le_of_ble_eq_true rfl) fun a hF hS => ?_
 have hbl := hb.1
 refine wp_seq_k ?_; intro K1 hK1
 refine reg hF hS (sq rfl (q_assign rfl) <|
   sq_end) ?_
 clear hF hS; intro a w hF hS
 refine hK1 _ _ ?_
 clear hK1
 refine wp_seq_k ?_; intro K2 hK2
 refine wp_seq_k ?_; intro K3 hK3
 refine regl ?_
 refine wpl_sq hF hS (sq rfl (q_move rfl) <|
   sq rfl (q_lti rfl rfl) <|
   sq rfl (q_move rfl) <|
   sq_end) ?_
 clear hF hS; intro a w hF hS
 refine wpl_or 2 9 4 hF hS rfl rfl rfl rfl rfl (fun hg => have hg := (by first | exact of_decide_eq_false hg | exact hg); sq_go 9 rfl rfl rfl (q_move rfl) <|
   sq_go 9 rfl rfl rfl (q_move rfl) <|
   sq_go 9 rfl rfl rfl (q_len_sl ty22 hb rfl) <|
   sq_go 9 rfl rfl rfl (q_gei rfl rfl) <|
   sq_end) rfl rfl ?_
 clear hF hS; intro a w hF hS
 refine wpList_nil ?_
 refine hK3 _ _ ?_
 clear hK3
 refine wp_if hF rfl (fun hc1 => ?_) (fun hc1 => ?_)
 ·(try simp only [Bool.or_eq_true, Bool.and_eq_true, Bool.or_eq_false_iff, Bool.and_eq_false_iff, decide_eq_true_eq, decide_eq_false_iff_not, Bool.not_eq_true', Bool.not_eq_false'] at hc1)
  refine wp_seq_k ?_; intro K4 hK4
  refine reg hF hS (sq rfl (q_assign rfl) <|
    sq_end) ?_
  clear hF hS; intro a w hF hS
  refine hK4 _ _ ?_
  clear hK4
  refine wp_ret ?_
  exact fn_ret (rs := [.tmp 6]) rfl hF hS (vs := [_]) ⟨rfl, trivial⟩ zQ zQ (by unfold Gu.atN; rw [if_pos (by simpa using hc1)])
 ·(try simp only [Bool.or_eq_true, Bool.and_eq_true, Bool.or_eq_false_iff, Bool.and_eq_false_iff, decide_eq_true_eq, decide_eq_false_iff_not, Bool.not_eq_true', Bool.not_eq_false'] at hc1)
  have hir : 0 ≤ i ∧ i < l.length := by simp at hc1; omega
  have hrg := sl_rng hb _ (getD_mem (k := i.toNat) (by omega))
  refine wp_skip ?_
  refine hK2 _ _ ?_
  clear hK2
  refine wp_seq_k ?_; intro K5 hK5
  refine reg hF hS (sq rfl (q_move rfl) <|
    sq rfl (q_move rfl) <|
    sq rfl (q_idx_sl ty22 ty3 hb rfl rfl (by omega)) <|
    sq rfl (q_ld_I ty3 hb zin0 rfl rfl (by omega)) <|
    sq rfl (q_move rfl) <|
    sq rfl (q_call fn17 rfl (fun w hS => arnd_ct _ _ (by omega) (by omega) w ) (fun _ _ _ h => h)) <|
    sq rfl (q_assign rfl) <|
    sq_end) ?_
  clear hF hS; intro a w hF hS
  refine hK5 _ _ ?_
  clear hK5
  refine wp_ret ?_
  exact fn_ret (rs := [.tmp 6]) rfl hF hS (vs := [_]) ⟨rfl, trivial⟩ zQ zQ (by unfold Gu.atN; rw [if_neg (by omega)])
end Go.Proofs.YtdojfnigffeblaaDoor
