/- A text of a proof over this seat: walks over the program's functions and the plain laws that they need. -/
import Derived.Test.YtplceoanaoeejaaQp17
import Derived.Test.YtplceoanaoeejaaGpA
import Derived.Test.YtplceoanaoeejaaFwC
import Derived.Test.YtplceoanaoeejaaFwB
set_option linter.all false
namespace Go.Proofs.Ytplceoanaoeejaa
open Go.Fw
theorem fn21 : FnOk Try.prog 21 := ⟨_, Try.func21, rfl, by kernel_rfl⟩

set_option maxRecDepth 4000 in
set_option maxHeartbeats 2000000 in
theorem rmost_step (f : Nat) (ih : ∀ (n d : Int), 0 ≤ n ∧ n < f → ∀ w : World, Ct Try.prog 21 [vi n, vi d] w (fun r _ _ => r = .tuple #[vi (Gp.moV n d), vi (Gp.moE n d)])) (n d : Int) (hn : n < f + 1) (w : World) : Ct Try.prog 21 [vi n, vi d] w (fun r _ _ => r = .tuple #[vi (Gp.moV n d), vi (Gp.moE n d)]) := by
 refine fn_enter Try.func21 rfl Try.ntmps21 (Nat.le_of_ble_eq_true rfl) fun a hF hS => ?_
 refine wp_seq_k ?_; intro K1 hK1
 refine reg hF hS (sq rfl (q_assign rfl) <|
   sq rfl (q_assign rfl) <|
   sq_end) ?_
 clear hF hS; intro a w hF hS
 refine hK1 _ _ ?_
 clear hK1
 refine wp_seq_k ?_; intro K2 hK2
 refine wp_seq_k ?_; intro K3 hK3
 refine regl ?_
 refine wpl_sq hF hS (sq rfl (q_move rfl) <|
   sq rfl (q_lti rfl rfl) <|
   sq rfl (q_move rfl) <|
   sq_end) ?_
 clear hF hS; intro a w hF hS
 refine wpl_or 2 14 2 hF hS rfl rfl rfl rfl rfl (fun hg => have hg := (by first | exact of_decide_eq_false hg | exact hg); sq_go 14 rfl rfl rfl (q_move rfl) <|
   sq_go 14 rfl rfl rfl (q_gti rfl rfl) <|
   sq_end) rfl rfl ?_
 clear hF hS; intro a w hF hS
 refine wpl_sq hF hS (sq rfl (q_move rfl) <|
   sq_end) ?_
 clear hF hS; intro a w hF hS
 refine wpl_or 6 18 2 hF hS rfl rfl rfl rfl rfl (fun hg => have hg := hg; sq_go 18 rfl rfl rfl (q_move rfl) <|
   sq_go 18 rfl rfl rfl (q_lti rfl rfl) <|
   sq_end) rfl rfl ?_
 clear hF hS; intro a w hF hS
 refine wpl_sq hF hS (sq rfl (q_move rfl) <|
   sq_end) ?_
 clear hF hS; intro a w hF hS
 refine wpl_or 10 22 3 hF hS rfl rfl rfl rfl rfl (fun hg => have hg := hg; sq_go 22 rfl rfl rfl (q_move rfl) <|
   sq_go 22 rfl rfl rfl (q_move rfl) <|
   sq_go 22 rfl rfl rfl (q_gti rfl rfl) <|
   sq_end) rfl rfl ?_
 clear hF hS; intro a w hF hS
 refine wpList_nil ?_
 refine hK3 _ _ ?_
 clear hK3
 refine wp_if hF rfl (fun hc1 => ?_) (fun hc1 => ?_)
 ·(try simp only [Bool.or_eq_true, Bool.and_eq_true, Bool.or_eq_false_iff, Bool.and_eq_false_iff, decide_eq_true_eq, decide_eq_false_iff_not, Bool.not_eq_true', Bool.not_eq_false'] at hc1)
  refine wp_seq_k ?_; intro K4 hK4
  refine reg hF hS (sq rfl (q_assign rfl) <|
    sq rfl (q_assign rfl) <|
    sq_end) ?_
  clear hF hS; intro a w hF hS
  refine hK4 _ _ ?_
  clear hK4
  refine wp_ret ?_
  exact fn_ret (rs := [.tmp 4, .tmp 5]) rfl hF hS (vs := [_, _]) ⟨rfl, rfl, trivial⟩ zQ zQ (by rw [(Gp.moE_v hc1).1, (Gp.moE_v hc1).2])
 ·(try simp only [Bool.or_eq_true, Bool.and_eq_true, Bool.or_eq_false_iff, Bool.and_eq_false_iff, decide_eq_true_eq, decide_eq_false_iff_not, Bool.not_eq_true', Bool.not_eq_false'] at hc1)
  have hE := Gp.moE_k hc1
  refine wp_skip ?_
  refine hK2 _ _ ?_
  clear hK2
  refine wp_seq_k ?_; intro K5 hK5
  refine wp_seq_k ?_; intro K6 hK6
  refine reg hF hS (sq rfl (q_move rfl) <|
    sq rfl (q_eqi rfl rfl) <|
    sq_end) ?_
  clear hF hS; intro a w hF hS
  refine hK6 _ _ ?_
  clear hK6
  refine wp_ifd hF rfl (fun hc2 => ?_) (fun hc2 => ?_)
  ·refine wp_seq_k ?_; intro K7 hK7
   refine reg hF hS (sq rfl (q_assign rfl) <|
     sq rfl (q_assign rfl) <|
     sq_end) ?_
   clear hF hS; intro a w hF hS
   refine hK7 _ _ ?_
   clear hK7
   refine wp_ret ?_
   exact fn_ret (rs := [.tmp 4, .tmp 5]) rfl hF hS (vs := [_, _]) ⟨rfl, rfl, trivial⟩ zQ zQ (by subst hc2; rw [hE, Gp.rm_zero hE])
  ·refine wp_skip ?_
   refine hK5 _ _ ?_
   clear hK5
   refine wp_seq_k ?_; intro K8 hK8
   refine wp_seq_k ?_; intro K9 hK9
   refine regl ?_
   refine wpl_sq hF hS (sq rfl (q_move rfl) <|
     sq rfl (q_eqi rfl rfl) <|
     sq rfl (q_move rfl) <|
     sq_end) ?_
   clear hF hS; intro a w hF hS
   refine wpl_or 2 31 2 hF hS rfl rfl rfl rfl rfl (fun hg => have hg := (by first | exact of_decide_eq_false hg | exact hg); sq_go 31 rfl rfl rfl (q_move rfl) <|
     sq_go 31 rfl rfl rfl (q_eqi rfl rfl) <|
     sq_end) rfl rfl ?_
   clear hF hS; intro a w hF hS
   refine wpList_nil ?_
   refine hK9 _ _ ?_
   clear hK9
   refine wp_if hF rfl (fun hc3 => ?_) (fun hc3 => ?_)
   ·(try simp only [Bool.or_eq_true, Bool.and_eq_true, Bool.or_eq_false_iff, Bool.and_eq_false_iff, decide_eq_true_eq, decide_eq_false_iff_not, Bool.not_eq_true', Bool.not_eq_false'] at hc3)
    refine wp_seq_k ?_; intro K10 hK10
    refine reg hF hS (sq rfl (q_assign rfl) <|
      sq rfl (q_assign rfl) <|
      sq_end) ?_
    clear hF hS; intro a w hF hS
    refine hK10 _ _ ?_
    clear hK10
    refine wp_ret ?_
    exact fn_ret (rs := [.tmp 4, .tmp 5]) rfl hF hS (vs := [_, _]) ⟨rfl, rfl, trivial⟩ zQ zQ (by rw [hE, Gp.rm_one hE hc2 hc3])
   ·(try simp only [Bool.or_eq_true, Bool.and_eq_true, Bool.or_eq_false_iff, Bool.and_eq_false_iff, decide_eq_true_eq, decide_eq_false_iff_not, Bool.not_eq_true', Bool.not_eq_false'] at hc3)
    refine wp_skip ?_
    refine hK8 _ _ ?_
    clear hK8
    refine wp_seq_k ?_; intro K11 hK11
    refine reg hF hS (sq rfl (q_assign rfl) <|
      sq_end) ?_
    clear hF hS; intro a w hF hS
    refine hK11 _ _ ?_
    clear hK11
    refine wp_seq_k ?_; intro K12 hK12
    refine wp_seq_k ?_; intro K13 hK13
    refine reg hF hS (sq rfl (q_assign rfl) <|
      sq_end) ?_
    clear hF hS; intro a w hF hS
    refine hK13 _ _ ?_
    clear hK13
    refine wp_block ?_
    obtain ⟨hs0, hhs0, hS⟩ : ∃ h, h = _ ∧ St _ _ h _ := ⟨_, rfl, hS⟩
    refine wp_loopx (γ := Int) (0) (fun (i : Int) => [(6, vi (Gp.rpf n.toNat d.toNat i.toNat)), (7, vi i)]) [(0, _), (1, _)] (fun (i : Int) => hs0) (fun (i : Int) => 0 ≤ i ∧ i ≤ d + 1 ∧ 0 ≤ (Gp.rpf n.toNat d.toNat i.toNat) ∧ (Gp.rpf n.toNat d.toNat i.toNat) ≤ 30) (fun (i : Int) => (d + 1 - i).toNat) (hF.sub ⟨rfl, rfl, rfl, rfl, trivial⟩) (by subst hhs0; exact hS) (by exact ⟨Int.le_refl _, by omega, (show (0 : Int) ≤ 0 from Int.le_refl 0), (show (0 : Int) ≤ 30 from by decide)⟩) ?_
    clear hF hS; rintro i a w hfact hF hS
    subst hhs0; (try dsimp only at hfact); (try dsimp only at hF); (try dsimp only at hS)
    obtain ⟨hi0, hi1, hrb⟩ := hfact
    replace hS : St _ [] [] _ := hS
    refine wp_seq_k ?_; intro K14 hK14
    refine wp_seq_k ?_; intro K15 hK15
    refine reg hF hS (sq rfl (q_move rfl) <|
      sq rfl (q_move rfl) <|
      sq rfl (q_lei rfl rfl) <|
      sq_end) ?_
    clear hF hS; intro a w hF hS
    refine hK15 _ _ ?_
    clear hK15
    refine wp_ifd hF rfl (fun hc4 => ?_) (fun hc4 => ?_)
    ·have hm1 := Gp.moB (n := n / 2) (d := i)
     have hm2 := Gp.moB (n := n - n / 2) (d := d - i)
     refine wp_skip ?_
     refine hK14 _ _ ?_
     clear hK14
     refine wp_seq_k ?_; intro K16 hK16
     refine wp_block ?_
     refine wp_seq_k ?_; intro K17 hK17
     refine reg hF hS (sq rfl (q_move rfl) <|
       sq rfl (q_quoi rfl rfl (by omega)) <|
       sq rfl (q_move rfl) <|
       sq rfl (q_call fn21 rfl (fun w hS => ih _ _ (by omega) w ) (fun _ _ _ h => h)) <|
       sq rfl (q_move rfl) <|
       sq rfl (q_extract rfl rfl) <|
       sq rfl (q_extract rfl rfl) <|
       sq rfl (q_assign rfl) <|
       sq rfl (q_assign rfl) <|
       sq_end) ?_
     clear hF hS; intro a w hF hS
     refine hK17 _ _ ?_
     clear hK17
     refine wp_seq_k ?_; intro K18 hK18
     refine reg hF hS (sq rfl (q_move rfl) <|
       sq rfl (q_move rfl) <|
       sq rfl (q_quoi rfl rfl (by omega)) <|
       sq rfl (q_subi rfl rfl (by omega)) <|
       sq rfl (q_move rfl) <|
       sq rfl (q_move rfl) <|
       sq rfl (q_subi rfl rfl (by omega)) <|
       sq rfl (q_call fn21 rfl (fun w hS => ih _ _ (by omega) w ) (fun _ _ _ h => h)) <|
       sq rfl (q_move rfl) <|
       sq rfl (q_extract rfl rfl) <|
       sq rfl (q_extract rfl rfl) <|
       sq rfl (q_assign rfl) <|
       sq rfl (q_assign rfl) <|
       sq_end) ?_
     clear hF hS; intro a w hF hS
     refine hK18 _ _ ?_
     clear hK18
     refine wp_seq_k ?_; intro K19 hK19
     refine regl ?_
     refine wpl_sq hF hS (sq rfl (q_move rfl) <|
       sq rfl (q_eqi rfl rfl) <|
       sq rfl (q_move rfl) <|
       sq_end) ?_
     clear hF hS; intro a w hF hS
     refine wpl_and 2 60 2 hF hS rfl rfl rfl rfl rfl (fun hg => have hg := (by first | exact of_decide_eq_true hg | exact hg); sq_go 60 rfl rfl rfl (q_move rfl) <|
       sq_go 60 rfl rfl rfl (q_eqi rfl rfl) <|
       sq_end) rfl rfl ?_
     clear hF hS; intro a w hF hS
     refine wpList_nil ?_
     refine hK19 _ _ ?_
     clear hK19
     refine wp_if hF rfl (fun hc5 => ?_) (fun hc5 => ?_)
     ·(try simp only [Bool.or_eq_true, Bool.and_eq_true, Bool.or_eq_false_iff, Bool.and_eq_false_iff, decide_eq_true_eq, decide_eq_false_iff_not, Bool.not_eq_true', Bool.not_eq_false'] at hc5)
      have hrt := Gp.rm_t (n := n) (d := d) (i := i) (by omega) (by omega) hc5.1 hc5.2 hrb
      refine reg hF hS (sq rfl (q_move rfl) <|
        sq rfl (q_move rfl) <|
        sq rfl (q_move rfl) <|
        sq rfl (q_addi rfl rfl (by omega)) <|
        sq rfl (q_max rfl rfl) <|
        sq rfl (q_assign rfl) <|
        sq_end) ?_
      clear hF hS; intro a w hF hS
      refine hK16 _ _ ?_
      clear hK16
      refine reg hF hS (sq rfl (q_move rfl) <|
        sq rfl (q_addi rfl rfl (by omega)) <|
        sq rfl (q_assign rfl) <|
        sq_end) ?_
      clear hF hS; intro a w hF hS
      refine ⟨(i + 1), ?_, ?_, hF.sub ⟨(by first | (rw [hrt.1]; rfl) | (rw [hrf]; rfl)), rfl, rfl, rfl, trivial⟩, ?_⟩
      ·(try dsimp only); omega
      ·exact ⟨by omega, by omega, hrt.2⟩
      ·exact hS
     ·(try simp only [Bool.or_eq_true, Bool.and_eq_true, Bool.or_eq_false_iff, Bool.and_eq_false_iff, decide_eq_true_eq, decide_eq_false_iff_not, Bool.not_eq_true', Bool.not_eq_false'] at hc5)
      have hrf := Gp.rm_f (n := n) (d := d) (i := i) (by omega) (by omega) hc5
      refine wp_skip ?_
      refine hK16 _ _ ?_
      clear hK16
      refine reg hF hS (sq rfl (q_move rfl) <|
        sq rfl (q_addi rfl rfl (by omega)) <|
        sq rfl (q_assign rfl) <|
        sq_end) ?_
      clear hF hS; intro a w hF hS
      refine ⟨(i + 1), ?_, ?_, hF.sub ⟨(by first | (rw [hrt.1]; rfl) | (rw [hrf]; rfl)), rfl, rfl, rfl, trivial⟩, ?_⟩
      ·(try dsimp only); omega
      ·exact ⟨by omega, by omega, by rw [hrf]; exact hrb⟩
      ·exact hS
    ·refine wp_exit ?_
     refine hK12 _ _ ?_
     clear hK12
     refine wp_seq_k ?_; intro K20 hK20
     refine reg hF hS (sq rfl (q_move rfl) <|
       sq rfl (q_addi rfl rfl (by omega)) <|
       sq rfl (q_assign rfl) <|
       sq rfl (q_assign rfl) <|
       sq_end) ?_
     clear hF hS; intro a w hF hS
     refine hK20 _ _ ?_
     clear hK20
     refine wp_ret ?_
     exact fn_ret (rs := [.tmp 4, .tmp 5]) rfl hF hS (vs := [_, _]) ⟨rfl, rfl, trivial⟩ zQ zQ (by rw [hE, Gp.rm_end hE (by omega) (by omega) (by omega)])

theorem rmost_ct (n d : Int) (w : World) : Ct Try.prog 21 [vi n, vi d] w (fun r _ _ => r = .tuple #[vi (Gp.moV n d), vi (Gp.moE n d)]) := by
 have key : ∀ (f : Nat) (n d : Int), n < f → ∀ w : World, Ct Try.prog 21 [vi n, vi d] w (fun r _ _ => r = .tuple #[vi (Gp.moV n d), vi (Gp.moE n d)]) := by
  intro f
  induction f with
  | zero => exact fun n d hn w => rmost_step 0 (fun n d h => absurd h (by omega)) n d (by omega) w
  | succ f ih => exact fun n d hn w => rmost_step f (fun n d h => ih n d h.2) n d (by omega) w
 exact key (n.toNat + 1) n d (by omega) w
end Go.Proofs.Ytplceoanaoeejaa
