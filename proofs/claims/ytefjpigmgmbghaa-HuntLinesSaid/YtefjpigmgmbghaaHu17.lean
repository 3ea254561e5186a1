/- A text of a proof over this seat: walks over the program's functions and the plain laws that they need. -/
import Derived.Test.YtefjpigmgmbghaaHg3
import Derived.Test.YtefjpigmgmbghaaHpA
import Derived.Test.YtefjpigmgmbghaaFwD
import Derived.Test.YtefjpigmgmbghaaFwB
set_option linter.all false
namespace Go.Proofs.Ytefjpigmgmbghaa
open Go.Fw
theorem fn69 : FnOk Try.prog 69 := ⟨_, Try.func69, rfl, by kernel_rfl⟩
theorem fn73 : FnOk Try.prog 73 := ⟨_, Try.func73, rfl, by kernel_rfl⟩
theorem fn79 : FnOk Try.prog 79 := ⟨_, Try.func79, rfl, by kernel_rfl⟩

set_option maxRecDepth 4000 in
set_option maxHeartbeats 2000000 in
theorem rabove_ct (xN xS xB : Value) (xs : List Int) (xb : List Bool) (s : Int) (hl : xs.length < 1048576) (w : World) (hxn : xN.oneCell' = true) (hxs : Sl encI (ph w) xS xs) (hxb : Sl encT (ph w) xB xb) : Ct Try.prog 69 [.agg [xN, xS, xB].toArray, vi s] w (SlR encI (Hu.Ab.blw xs s)) := by
 refine fn_enter Try.func69 rfl Try.ntmps69 (Nat.le_of_ble_eq_true rfl) fun a hF hS => ?_
 have hsl := hxs.1
 refine wp_seq_k ?_; intro K1 hK1
 refine regl ?_
 refine wpl_ef hF hS rfl (ef_boxA rfl) ?_
 clear hF hS; rintro _ _ _ a w ⟨b1, rfl, rfl, rfl⟩ hF hS
 refine wpl_sq hF hS (sq rfl (q_assign rfl) <|
   sq_end) ?_
 clear hF hS; intro a w hF hS
 refine wpList_nil ?_
 refine hK1 _ _ ?_
 clear hK1
 refine wp_seq_k ?_; intro K2 hK2
 refine reg hF hS (sq rfl (q_assign rfl) <|
   sq_end) ?_
 clear hF hS; intro a w hF hS
 replace hS := hS.nilRow 3 1
 refine hK2 _ _ ?_
 clear hK2
 refine wp_seq_k ?_; intro K3 hK3
 refine wp_seq_k ?_; intro K4 hK4
 refine reg hF hS (sq rfl (q_assign rfl) <|
   sq_end) ?_
 clear hF hS; intro a w hF hS
 refine hK4 _ _ ?_
 clear hK4
 refine wp_block ?_
 obtain ⟨hs0, hhs0, hS⟩ : ∃ h, h = _ ∧ St _ _ h _ := ⟨_, rfl, hS⟩
 refine wp_loopx (γ := Value × Int) ((Value.slice none 0 0), 0) (fun (gg : Value × Int) => match gg with | (u, k) => [(5, u), (6, vi k)]) [(1, _), (2, _)] (fun (gg : Value × Int) => match gg with | (u, k) => (hs0.set 0 (.row u 3 1 (Hu.Ab.rblw xs s k.toNat).length ((Hu.Ab.rblw xs s k.toNat).map vi)))) (fun (gg : Value × Int) => match gg with | (u, k) => 0 ≤ k ∧ k ≤ xs.length) (fun (gg : Value × Int) => match gg with | (u, k) => (xs.length - k).toNat) (hF.sub ⟨rfl, rfl, rfl, rfl, trivial⟩) (by subst hhs0; exact hS) (by exact ⟨Int.le_refl _, by omega⟩) ?_
 clear hF hS; rintro ⟨u, k⟩ a w hfact hF hS
 subst hhs0; (try dsimp only at hfact); (try dsimp only at hF); (try dsimp only at hS)
 obtain ⟨hk0, hk1⟩ := hfact
 replace hS : St _ [] [_, _] _ := hS
 have hel := Hu.Ab.rblw_len xs s k.toNat
 have hrg := fun x hx => sl_rng hxs x (Hu.Ab.rblw_mem xs s k.toNat (by omega) x hx)
 refine wp_seq_k ?_; intro K5 hK5
 refine wp_seq_k ?_; intro K6 hK6
 refine reg hF hS (sq rfl (q_move rfl) <|
   sq rfl (q_fieldAddr ty26 rfl rfl (s' := 0) kQ) <|
   sq rfl (q_ld_blk1 ty22 1 rfl rfl rfl rfl) <|
   sq rfl (q_len_sl ty22 hxs rfl) <|
   sq rfl (q_lti rfl rfl) <|
   sq_end) ?_
 clear hF hS; intro a w hF hS
 refine hK6 _ _ ?_
 clear hK6
 refine wp_ifd hF rfl (fun hc1 => ?_) (fun hc1 => ?_)
 ·refine wp_skip ?_
  refine hK5 _ _ ?_
  clear hK5
  refine wp_seq_k ?_; intro K7 hK7
  refine wp_block ?_
  refine wp_seq_k ?_; intro K8 hK8
  refine reg hF hS (sq rfl (q_fieldAddr ty26 rfl rfl (s' := 0) kQ) <|
    sq rfl (q_ld_blk1 ty22 1 rfl rfl rfl rfl) <|
    sq rfl (q_move rfl) <|
    sq rfl (q_idx_sl ty22 ty3 hxs rfl rfl (by omega)) <|
    sq rfl (q_ld_I ty3 hxs zin0 rfl rfl (by omega)) <|
    sq rfl (q_assign rfl) <|
    sq_end) ?_
  clear hF hS; intro a w hF hS
  refine hK8 _ _ ?_
  clear hK8
  refine wp_seq_k ?_; intro K9 hK9
  refine regl ?_
  refine wpl_sq hF hS (sq rfl (q_move rfl) <|
    sq rfl (q_move rfl) <|
    sq rfl (q_nei rfl rfl) <|
    sq rfl (q_move rfl) <|
    sq_end) ?_
  clear hF hS; intro a w hF hS
  refine wpl_and 3 26 3 hF hS rfl rfl rfl rfl rfl (fun hg => have hg := (nd_true hg); sq_go 26 rfl rfl rfl (q_move rfl) <|
    sq_go 26 rfl rfl rfl (q_move rfl) <|
    sq_go 26 rfl rfl rfl (q_call fn48 rfl (fun w hS => in_ct _ _ w ) (fun _ _ _ h => h)) <|
    sq_end) rfl rfl ?_
  clear hF hS; intro a w hF hS
  refine wpl_sq hF hS (sq rfl (q_move rfl) <|
    sq_end) ?_
  clear hF hS; intro a w hF hS
  refine wpl_and 8 31 4 hF hS rfl rfl rfl rfl rfl (fun hg => have hg := hg; sq_go 31 rfl rfl rfl (q_move rfl) <|
    sq_go 31 rfl rfl rfl (q_move rfl) <|
    sq_go 31 rfl rfl rfl (q_call fn79 rfl (fun w hS => has24_ct _ _ _ w (own_slV (hS.own _ (List.mem_of_getElem? (i := 0) rfl)).1 (by first | assumption | (simp; done)) (by first | rfl | (simp; done) | (simp; omega) | omega) (by first | omega | (simp; omega)))) (fun _ _ _ h => h)) <|
    sq_go 31 rfl rfl rfl (q_not rfl) <|
    sq_end) rfl rfl ?_
  clear hF hS; intro a w hF hS
  refine wpl_sq hF hS (sq rfl (q_assign rfl) <|
    sq_end) ?_
  clear hF hS; intro a w hF hS
  refine wpList_nil ?_
  refine hK9 _ _ ?_
  clear hK9
  refine wp_seq_k ?_; intro K10 hK10
  refine wp_seq_k ?_; intro K11 hK11
  refine reg hF hS (sq rfl (q_assign rfl) <|
    sq_end) ?_
  clear hF hS; intro a w hF hS
  refine hK11 _ _ ?_
  clear hK11
  refine wp_block ?_
  obtain ⟨hs0, hhs0, hS⟩ : ∃ h, h = _ ∧ St _ _ h _ := ⟨_, rfl, hS⟩
  refine wp_loopx (γ := Bool × Int) (((!decide ((xs.getD k.toNat 0) = s) && Gu.wi s (xs.getD k.toNat 0)) && !decide ((xs.getD k.toNat 0) ∈ (Hu.Ab.rblw xs s k.toNat))), 0) (fun (gg : Bool × Int) => match gg with | (gd, j) => [(8, .bool gd), (9, vi j)]) [(1, _), (2, _), (5, _), (6, _), (7, _)] (fun (gg : Bool × Int) => match gg with | (gd, j) => hs0) (fun (gg : Bool × Int) => match gg with | (gd, j) => 0 ≤ j ∧ j ≤ xs.length ∧ gd = (((!decide ((xs.getD k.toNat 0) = s) && Gu.wi s (xs.getD k.toNat 0)) && !decide ((xs.getD k.toNat 0) ∈ (Hu.Ab.rblw xs s k.toNat))) && !Hu.Ab.btw xs s (xs.getD k.toNat 0) j.toNat)) (fun (gg : Bool × Int) => match gg with | (gd, j) => (xs.length - j).toNat) (hF.sub ⟨rfl, rfl, rfl, rfl, rfl, rfl, rfl, trivial⟩) (by subst hhs0; exact hS) (by exact ⟨Int.le_refl _, by omega, by simp [Hu.Ab.btw]⟩) ?_
  clear hF hS; rintro ⟨gd, j⟩ a w hfact hF hS
  subst hhs0; (try dsimp only at hfact); (try dsimp only at hF); (try dsimp only at hS)
  obtain ⟨hj0, hj1, hgd⟩ := hfact
  replace hS : St _ [] [_, _] _ := hS
  refine wp_seq_k ?_; intro K12 hK12
  refine wp_seq_k ?_; intro K13 hK13
  refine regl ?_
  refine wpl_sq hF hS (sq rfl (q_move rfl) <|
    sq rfl (q_fieldAddr ty26 rfl rfl (s' := 0) kQ) <|
    sq rfl (q_ld_blk1 ty22 1 rfl rfl rfl rfl) <|
    sq rfl (q_len_sl ty22 hxs rfl) <|
    sq rfl (q_lti rfl rfl) <|
    sq rfl (q_move rfl) <|
    sq_end) ?_
  clear hF hS; intro a w hF hS
  refine wpl_and 5 42 1 hF hS rfl rfl rfl rfl rfl (fun hg => have hg := (by first | exact of_decide_eq_true hg | exact hg); sq_go 42 rfl rfl rfl (q_move rfl) <|
    sq_end) rfl rfl ?_
  clear hF hS; intro a w hF hS
  refine wpList_nil ?_
  refine hK13 _ _ ?_
  clear hK13
  refine wp_if hF rfl (fun hc2 => ?_) (fun hc2 => ?_)
  ·(try simp only [Bool.or_eq_true, Bool.and_eq_true, Bool.or_eq_false_iff, Bool.and_eq_false_iff, decide_eq_true_eq, decide_eq_false_iff_not, Bool.not_eq_true', Bool.not_eq_false'] at hc2)
   refine wp_skip ?_
   refine hK12 _ _ ?_
   clear hK12
   refine wp_seq_k ?_; intro K14 hK14
   refine wp_block ?_
   refine wp_seq_k ?_; intro K15 hK15
   refine reg hF hS (sq rfl (q_fieldAddr ty26 rfl rfl (s' := 0) kQ) <|
     sq rfl (q_ld_blk1 ty22 1 rfl rfl rfl rfl) <|
     sq rfl (q_move rfl) <|
     sq rfl (q_idx_sl ty22 ty3 hxs rfl rfl (by omega)) <|
     sq rfl (q_ld_I ty3 hxs zin0 rfl rfl (by omega)) <|
     sq rfl (q_assign rfl) <|
     sq_end) ?_
   clear hF hS; intro a w hF hS
   refine hK15 _ _ ?_
   clear hK15
   refine regl ?_
   refine wpl_sq hF hS (sq rfl (q_move rfl) <|
     sq rfl (q_move rfl) <|
     sq rfl (q_nei rfl rfl) <|
     sq rfl (q_move rfl) <|
     sq_end) ?_
   clear hF hS; intro a w hF hS
   refine wpl_and 3 55 3 hF hS rfl rfl rfl rfl rfl (fun hg => have hg := (nd_true hg); sq_go 55 rfl rfl rfl (q_move rfl) <|
     sq_go 55 rfl rfl rfl (q_move rfl) <|
     sq_go 55 rfl rfl rfl (q_call fn48 rfl (fun w hS => in_ct _ _ w ) (fun _ _ _ h => h)) <|
     sq_end) rfl rfl ?_
   clear hF hS; intro a w hF hS
   refine wpl_sq hF hS (sq rfl (q_move rfl) <|
     sq_end) ?_
   clear hF hS; intro a w hF hS
   refine wpl_and 8 60 3 hF hS rfl rfl rfl rfl rfl (fun hg => have hg := hg; sq_go 60 rfl rfl rfl (q_move rfl) <|
     sq_go 60 rfl rfl rfl (q_move rfl) <|
     sq_go 60 rfl rfl rfl (q_nei rfl rfl) <|
     sq_end) rfl rfl ?_
   clear hF hS; intro a w hF hS
   refine wpl_sq hF hS (sq rfl (q_move rfl) <|
     sq_end) ?_
   clear hF hS; intro a w hF hS
   refine wpl_and 13 65 3 hF hS rfl rfl rfl rfl rfl (fun hg => have hg := hg; sq_go 65 rfl rfl rfl (q_move rfl) <|
     sq_go 65 rfl rfl rfl (q_move rfl) <|
     sq_go 65 rfl rfl rfl (q_call fn48 rfl (fun w hS => in_ct _ _ w ) (fun _ _ _ h => h)) <|
     sq_end) rfl rfl ?_
   clear hF hS; intro a w hF hS
   refine wpl_sq hF hS (sq rfl (q_not rfl) <|
     sq rfl (q_assign rfl) <|
     sq_end) ?_
   clear hF hS; intro a w hF hS
   refine wpList_nil ?_
   refine hK14 _ _ ?_
   clear hK14
   refine reg hF hS (sq rfl (q_move rfl) <|
     sq rfl (q_addi rfl rfl (by omega)) <|
     sq rfl (q_assign rfl) <|
     sq_end) ?_
   clear hF hS; intro a w hF hS
   refine ⟨(_, j + 1), ?_, ?_, hF.sub ⟨rfl, rfl, rfl, rfl, rfl, rfl, rfl, trivial⟩, ?_⟩
   ·(try dsimp only); omega
   ·refine ⟨by omega, by omega, ?_⟩
    rw [show (j + 1).toNat = j.toNat + 1 by omega, Hu.Ab.btw_succ]
    exact Gu.good_step (hgd.symm.trans hc2.2)
   ·exact hS
  ·(try simp only [Bool.or_eq_true, Bool.and_eq_true, Bool.or_eq_false_iff, Bool.and_eq_false_iff, decide_eq_true_eq, decide_eq_false_iff_not, Bool.not_eq_true', Bool.not_eq_false'] at hc2)
   have hgq : gd = (((!decide ((xs.getD k.toNat 0) = s) && Gu.wi s (xs.getD k.toNat 0)) && !decide ((xs.getD k.toNat 0) ∈ (Hu.Ab.rblw xs s k.toNat))) && !Hu.Ab.btw xs s (xs.getD k.toNat 0) xs.length) := by unfold Hu.Ab.btw; exact Gu.good_end ⟨hj0, hj1⟩ (by rcases hc2 with h9 | h9; exact .inl (by omega); exact .inr h9) hgd
   refine wp_exit ?_
   refine hK10 _ _ ?_
   clear hK10
   refine wp_seq_k ?_; intro K16 hK16
   refine reg hF hS (sq rfl (q_move rfl) <|
     sq_end) ?_
   clear hF hS; intro a w hF hS
   refine hK16 _ _ ?_
   clear hK16
   refine wp_if hF rfl (fun hc3 => ?_) (fun hc3 => ?_)
   ·refine regl ?_
    refine wpl_sq hF hS (sq rfl (q_move rfl) <|
      sq rfl (q_move rfl) <|
      sq_end) ?_
    clear hF hS; intro a w hF hS
    refine wpl_ef hF hS rfl (ef_bsliceA ty22 ty3 rfl rfl oQ (by decide) rfl rfl) ?_
    clear hF hS; rintro v3 _ _ a w ⟨rfl, rfl⟩ hF hS
    replace hS : St _ [] [_, _, _] _ := hS
    refine wpl_ef hF hS rfl (ef_append ty22 ty3 1 rfl rfl rfl (src_row ty22 (k := 0) rfl oQ) bQ rfl (by decide)) ?_
    clear hF hS; rintro v5 _ _ a w ⟨rfl, rfl⟩ hF hS
    replace hS : St _ [] [_, _, _] _ := hS
    refine wpl_sq hF hS (sq rfl (q_assign rfl) <|
      sq_end) ?_
    clear hF hS; intro a w hF hS
    refine wpList_nil ?_
    refine hK7 _ _ ?_
    clear hK7
    refine reg hF hS (sq rfl (q_move rfl) <|
      sq rfl (q_addi rfl rfl (by omega)) <|
      sq rfl (q_assign rfl) <|
      sq_end) ?_
    clear hF hS; intro a w hF hS
    replace hS := hS.keep zQ (sQ.n)
    refine ⟨(v5, k + 1), ?_, ?_, hF.sub ⟨rfl, rfl, rfl, rfl, trivial⟩, ?_⟩
    ·(try dsimp only); omega
    ·(try dsimp only); omega
    ·dsimp only; rw [show (k + 1).toNat = k.toNat + 1 by omega, Hu.Ab.rblw_step hgq hc3, List.map_append, List.length_append]; exact hS
   ·refine wp_skip ?_
    refine hK7 _ _ ?_
    clear hK7
    refine reg hF hS (sq rfl (q_move rfl) <|
      sq rfl (q_addi rfl rfl (by omega)) <|
      sq rfl (q_assign rfl) <|
      sq_end) ?_
    clear hF hS; intro a w hF hS
    refine ⟨(u, k + 1), ?_, ?_, hF.sub ⟨rfl, rfl, rfl, rfl, trivial⟩, ?_⟩
    ·(try dsimp only); omega
    ·(try dsimp only); omega
    ·dsimp only; rw [show (k + 1).toNat = k.toNat + 1 by omega, Hu.Ab.rblw_stay hgq hc3]; exact hS
 ·obtain rfl : k = xs.length := by omega
  rw [Int.toNat_natCast] at hS hel hrg
  refine wp_exit ?_
  refine hK3 _ _ ?_
  clear hK3
  refine wp_seq_k ?_; intro K17 hK17
  refine reg hF hS (sq rfl (q_move rfl) <|
    sq rfl (q_assign rfl) <|
    sq_end) ?_
  clear hF hS; intro a w hF hS
  refine hK17 _ _ ?_
  clear hK17
  refine wp_ret ?_
  obtain ⟨zr, hzr, hS⟩ := St.freezeV (f := vi) (p := fun x => -9223372036854775808 ≤ x ∧ x ≤ 9223372036854775807) hS rfl (by first | omega | (simp; omega)) (fun x hx => hrg x hx)
  exact fn_ret (rs := [.tmp 4]) rfl hF hS (vs := [_]) ⟨rfl, trivial⟩ (zs' := [_]) (hs' := []) (List.singleton_sublist.2 (by simp)) zQ (sr_of ⟨_, hzr, rfl, rfl⟩ (Hu.Ab.rblw_all xs s))

set_option maxRecDepth 4000 in
set_option maxHeartbeats 2000000 in
theorem rclosure_ct (xN xS xB : Value) (xs : List Int) (xb : List Bool) (s : Int) (w : World) (hxn : xN.oneCell' = true) (hxs : Sl encI (ph w) xS xs) (hxb : Sl encT (ph w) xB xb) : Ct Try.prog 38 [.agg [xN, xS, xB].toArray, vi s] w (fun r _ _ => r = vi (Hu.clo xs s xs.length)) := by
 refine fn_enter Try.func38 rfl Try.ntmps38 (Nat.le_of_ble_eq_true rfl) fun a hF hS => ?_
 have hsl := hxs.1
 refine wp_seq_k ?_; intro K1 hK1
 refine regl ?_
 refine wpl_ef hF hS rfl (ef_boxA rfl) ?_
 clear hF hS; rintro _ _ _ a w ⟨b1, rfl, rfl, rfl⟩ hF hS
 refine wpl_sq hF hS (sq rfl (q_assign rfl) <|
   sq_end) ?_
 clear hF hS; intro a w hF hS
 refine wpList_nil ?_
 refine hK1 _ _ ?_
 clear hK1
 refine wp_seq_k ?_; intro K2 hK2
 refine reg hF hS (sq rfl (q_assign rfl) <|
   sq_end) ?_
 clear hF hS; intro a w hF hS
 refine hK2 _ _ ?_
 clear hK2
 refine wp_seq_k ?_; intro K3 hK3
 refine wp_seq_k ?_; intro K4 hK4
 refine reg hF hS (sq rfl (q_assign rfl) <|
   sq_end) ?_
 clear hF hS; intro a w hF hS
 refine hK4 _ _ ?_
 clear hK4
 refine wp_block ?_
 obtain ⟨hs0, hhs0, hS⟩ : ∃ h, h = _ ∧ St _ _ h _ := ⟨_, rfl, hS⟩
 refine wp_loopx (γ := Int) (0) (fun (i : Int) => [(5, vi (Hu.clo xs s i.toNat)), (6, vi i)]) [(1, _), (2, _)] (fun (i : Int) => hs0) (fun (i : Int) => 0 ≤ i ∧ i ≤ xs.length) (fun (i : Int) => (xs.length - i).toNat) (hF.sub ⟨rfl, rfl, rfl, rfl, trivial⟩) (by subst hhs0; exact hS) (by exact ⟨Int.le_refl _, by omega⟩) ?_
 clear hF hS; rintro i a w hfact hF hS
 subst hhs0; (try dsimp only at hfact); (try dsimp only at hF); (try dsimp only at hS)
 obtain ⟨hi0, hi1⟩ := hfact
 replace hS : St _ [] [_] _ := hS
 refine wp_seq_k ?_; intro K5 hK5
 refine wp_seq_k ?_; intro K6 hK6
 refine reg hF hS (sq rfl (q_move rfl) <|
   sq rfl (q_fieldAddr ty26 rfl rfl (s' := 0) kQ) <|
   sq rfl (q_ld_blk1 ty22 0 rfl rfl rfl rfl) <|
   sq rfl (q_len_sl ty22 hxs rfl) <|
   sq rfl (q_lti rfl rfl) <|
   sq_end) ?_
 clear hF hS; intro a w hF hS
 refine hK6 _ _ ?_
 clear hK6
 refine wp_ifd hF rfl (fun hc1 => ?_) (fun hc1 => ?_)
 ·refine wp_skip ?_
  refine hK5 _ _ ?_
  clear hK5
  refine wp_seq_k ?_; intro K7 hK7
  refine wp_block ?_
  refine wp_seq_k ?_; intro K8 hK8
  refine reg hF hS (sq rfl (q_move rfl) <|
    sq rfl (q_fieldAddr ty26 rfl rfl (s' := 0) kQ) <|
    sq rfl (q_ld_blk1 ty22 0 rfl rfl rfl rfl) <|
    sq rfl (q_move rfl) <|
    sq rfl (q_idx_sl ty22 ty3 hxs rfl rfl (by omega)) <|
    sq rfl (q_ld_I ty3 hxs zin0 rfl rfl (by omega)) <|
    sq rfl (q_call fn48 rfl (fun w hS => in_ct _ _ w ) (fun _ _ _ h => h)) <|
    sq_end) ?_
  clear hF hS; intro a w hF hS
  refine hK8 _ _ ?_
  clear hK8
  refine wp_if hF rfl (fun hc2 => ?_) (fun hc2 => ?_)
  ·refine reg hF hS (sq rfl (q_move rfl) <|
     sq rfl (q_fieldAddr ty26 rfl rfl (s' := 0) kQ) <|
     sq rfl (q_ld_blk1 ty22 0 rfl rfl rfl rfl) <|
     sq rfl (q_move rfl) <|
     sq rfl (q_idx_sl ty22 ty3 hxs rfl rfl (by omega)) <|
     sq rfl (q_ld_I ty3 hxs zin0 rfl rfl (by omega)) <|
     sq rfl (q_andi rfl rfl) <|
     sq rfl (q_assign rfl) <|
     sq_end) ?_
   clear hF hS; intro a w hF hS
   refine hK7 _ _ ?_
   clear hK7
   refine reg hF hS (sq rfl (q_move rfl) <|
     sq rfl (q_addi rfl rfl (by omega)) <|
     sq rfl (q_assign rfl) <|
     sq_end) ?_
   clear hF hS; intro a w hF hS
   refine ⟨(i + 1), ?_, ?_, hF.sub ⟨(by rw [Hu.clo_t hi0 hc2]; rfl), rfl, rfl, rfl, trivial⟩, ?_⟩
   ·(try dsimp only); omega
   ·(try dsimp only); omega
   ·exact hS
  ·refine wp_skip ?_
   refine hK7 _ _ ?_
   clear hK7
   refine reg hF hS (sq rfl (q_move rfl) <|
     sq rfl (q_addi rfl rfl (by omega)) <|
     sq rfl (q_assign rfl) <|
     sq_end) ?_
   clear hF hS; intro a w hF hS
   refine ⟨(i + 1), ?_, ?_, hF.sub ⟨(by rw [Hu.clo_f hi0 hc2]; rfl), rfl, rfl, rfl, trivial⟩, ?_⟩
   ·(try dsimp only); omega
   ·(try dsimp only); omega
   ·exact hS
 ·obtain rfl : i = xs.length := by omega
  rw [Int.toNat_natCast] at hF
  refine wp_exit ?_
  refine hK3 _ _ ?_
  clear hK3
  refine wp_seq_k ?_; intro K9 hK9
  refine reg hF hS (sq rfl (q_move rfl) <|
    sq rfl (q_assign rfl) <|
    sq_end) ?_
  clear hF hS; intro a w hF hS
  refine hK9 _ _ ?_
  clear hK9
  refine wp_ret ?_
  exact fn_ret (rs := [.tmp 4]) rfl hF hS (vs := [_]) ⟨rfl, trivial⟩ zQ zQ (rfl)

/-- Some path. -/
def PthR (n : Nat) (r : Value) (zs : List PH) (hs : List Res) : Prop :=
 ∃ (v : Value) (p : List Int) (e : Int) (z : PH), r = .tuple [v, vi e].toArray ∧ Sl encI z v p ∧ p.length ≤ n + 1 ∧ zs = [z] ∧ hs = []

set_option maxRecDepth 4000 in
set_option maxHeartbeats 2000000 in
theorem rpath_ct (xN xS xB : Value) (xs : List Int) (xb : List Bool) (f t : Int) (hl : xs.length < 1048576) (w : World) (hxn : xN.oneCell' = true) (hxs : Sl encI (ph w) xS xs) (hxb : Sl encT (ph w) xB xb) : Ct Try.prog 39 [.agg [xN, xS, xB].toArray, vi f, vi t] w (PthR xs.length) := by
 refine fn_enter Try.func39 rfl Try.ntmps39 (Nat.le_of_ble_eq_true rfl) fun a hF hS => ?_
 have hsl := hxs.1
 have hrx : ∀ x ∈ xs, Gu.R64 x := fun x hx => sl_rng hxs x hx
 refine wp_seq_k ?_; intro K1 hK1
 refine regl ?_
 refine wpl_ef hF hS rfl (ef_boxA rfl) ?_
 clear hF hS; rintro _ _ _ a w ⟨b1, rfl, rfl, rfl⟩ hF hS
 refine wpl_sq hF hS (sq rfl (q_assign rfl) <|
   sq rfl (q_assign rfl) <|
   sq_end) ?_
 clear hF hS; intro a w hF hS
 refine wpList_nil ?_
 refine hK1 _ _ ?_
 clear hK1
 refine wp_seq_k ?_; intro K2 hK2
 refine wp_seq_k ?_; intro K3 hK3
 refine regl ?_
 refine wpl_sq hF hS (sq rfl (q_ld_blkW ty26 0 rfl rfl bQ rfl) <|
   sq rfl (q_move rfl) <|
   sq rfl (q_call fn45 rfl (fun w hS => rix_ct _ _ _ _ _ _ w hxn (Sl.mono (hS.le zin0) hxs) (Sl.mono (hS.le zin0) hxb)) (fun _ _ _ h => h)) <|
   sq rfl (q_lti rfl rfl) <|
   sq rfl (q_move rfl) <|
   sq_end) ?_
 clear hF hS; intro a w hF hS
 refine wpl_or 4 16 4 hF hS rfl rfl rfl rfl rfl (fun hg => have hg := (by first | exact of_decide_eq_false hg | exact hg); sq_go 16 rfl rfl rfl (q_ld_blkW ty26 0 rfl rfl bQ rfl) <|
   sq_go 16 rfl rfl rfl (q_move rfl) <|
   sq_go 16 rfl rfl rfl (q_call fn45 rfl (fun w hS => rix_ct _ _ _ _ _ _ w hxn (Sl.mono (hS.le zin0) hxs) (Sl.mono (hS.le zin0) hxb)) (fun _ _ _ h => h)) <|
   sq_go 16 rfl rfl rfl (q_lti rfl rfl) <|
   sq_end) rfl rfl ?_
 clear hF hS; intro a w hF hS
 refine wpList_nil ?_
 refine hK3 _ _ ?_
 clear hK3
 refine wp_if hF rfl (fun hc1 => ?_) (fun hc1 => ?_)
 ·(try simp only [Bool.or_eq_true, Bool.and_eq_true, Bool.or_eq_false_iff, Bool.and_eq_false_iff, decide_eq_true_eq, decide_eq_false_iff_not, Bool.not_eq_true', Bool.not_eq_false'] at hc1)
  refine wp_seq_k ?_; intro K4 hK4
  refine reg hF hS (sq rfl (q_assign rfl) <|
    sq rfl (q_assign rfl) <|
    sq_end) ?_
  clear hF hS; intro a w hF hS
  refine hK4 _ _ ?_
  clear hK4
  refine wp_ret ?_
  replace hS := hS.zone00
  exact fn_ret (rs := [.tmp 6, .tmp 7]) rfl hF hS (vs := [_, _]) ⟨rfl, rfl, trivial⟩ (zs' := [fun _ => none]) (hs' := []) (List.singleton_sublist.2 (by simp)) zQ ⟨_, [], 6, _, rfl, sl_nil, Nat.zero_le _, rfl, rfl⟩
 ·(try simp only [Bool.or_eq_true, Bool.and_eq_true, Bool.or_eq_false_iff, Bool.and_eq_false_iff, decide_eq_true_eq, decide_eq_false_iff_not, Bool.not_eq_true', Bool.not_eq_false'] at hc1)
  have hfx := Hu.ixF_memI hc1.1
  have htx := Hu.ixF_memI hc1.2
  refine wp_skip ?_
  refine hK2 _ _ ?_
  clear hK2
  refine wp_seq_k ?_; intro K5 hK5
  refine wp_seq_k ?_; intro K6 hK6
  refine reg hF hS (sq rfl (q_move rfl) <|
    sq rfl (q_move rfl) <|
    sq rfl (q_call fn48 rfl (fun w hS => in_ct _ _ w ) (fun _ _ _ h => h)) <|
    sq rfl (q_not rfl) <|
    sq_end) ?_
  clear hF hS; intro a w hF hS
  refine hK6 _ _ ?_
  clear hK6
  refine wp_if hF rfl (fun hc2 => ?_) (fun hc2 => ?_)
  ·refine wp_seq_k ?_; intro K7 hK7
   refine reg hF hS (sq rfl (q_assign rfl) <|
     sq rfl (q_assign rfl) <|
     sq_end) ?_
   clear hF hS; intro a w hF hS
   refine hK7 _ _ ?_
   clear hK7
   refine wp_ret ?_
   replace hS := hS.zone00
   exact fn_ret (rs := [.tmp 6, .tmp 7]) rfl hF hS (vs := [_, _]) ⟨rfl, rfl, trivial⟩ (zs' := [fun _ => none]) (hs' := []) (List.singleton_sublist.2 (by simp)) zQ ⟨_, [], 1, _, rfl, sl_nil, Nat.zero_le _, rfl, rfl⟩
  ·have hwf : Gu.wi f t = true := by simpa using hc2
   refine wp_skip ?_
   refine hK5 _ _ ?_
   clear hK5
   refine wp_seq_k ?_; intro K8 hK8
   refine regl ?_
   refine wpl_sq hF hS (sq rfl (q_move rfl) <|
     sq_end) ?_
   clear hF hS; intro a w hF hS
   refine wpl_ef hF hS rfl (ef_bsliceA ty22 ty3 rfl rfl oQ (by decide) rfl rfl) ?_
   clear hF hS; rintro v2 _ _ a w ⟨rfl, rfl⟩ hF hS
   replace hS : St _ [] [_, _] _ := hS
   refine wpl_sq hF hS (sq rfl (q_assign rfl) <|
     sq_end) ?_
   clear hF hS; intro a w hF hS
   refine wpList_nil ?_
   refine hK8 _ _ ?_
   clear hK8
   refine wp_seq_k ?_; intro K9 hK9
   refine reg hF hS (sq rfl (q_move rfl) <|
     sq rfl (q_assign rfl) <|
     sq_end) ?_
   clear hF hS; intro a w hF hS
   refine hK9 _ _ ?_
   clear hK9
   refine wp_seq_k ?_; intro K10 hK10
   refine wp_block ?_
   obtain ⟨hs0, hhs0, hS⟩ : ∃ h, h = _ ∧ St _ _ h _ := ⟨_, rfl, hS⟩
   refine wp_loopx (γ := Value × Int × List Int) (v2, f, [f]) (fun (gg : Value × Int × List Int) => match gg with | (u, c, L) => [(8, u), (9, vi c)]) [(2, _), (3, _)] (fun (gg : Value × Int × List Int) => match gg with | (u, c, L) => (hs0.set 0 (.row u 3 1 L.length (L.map vi)))) (fun (gg : Value × Int × List Int) => match gg with | (u, c, L) => (c ∈ xs ∧ Gu.wi c t = true) ∧ L.length + Hu.mPa xs t c ≤ xs.length + 1 ∧ ∀ x ∈ L, x ∈ xs) (fun (gg : Value × Int × List Int) => match gg with | (u, c, L) => Hu.mPa xs t c) (hF.sub ⟨rfl, rfl, rfl, rfl, trivial⟩) (by subst hhs0; exact hS) (by exact ⟨⟨hfx, hwf⟩, by have := Hu.mPa_le xs t f; simp; omega, fun x hx => by rw [List.mem_singleton.1 hx]; exact hfx⟩) ?_
   clear hF hS; rintro ⟨u, c, L⟩ a w hfact hF hS
   subst hhs0; (try dsimp only at hfact); (try dsimp only at hF); (try dsimp only at hS)
   obtain ⟨⟨ha1, ha2⟩, hLn, hLx⟩ := hfact
   replace hS : St _ [] [_, _] _ := hS
   refine wp_seq_k ?_; intro K11 hK11
   refine wp_seq_k ?_; intro K12 hK12
   refine reg hF hS (sq rfl (q_move rfl) <|
     sq rfl (q_move rfl) <|
     sq rfl (q_nei rfl rfl) <|
     sq_end) ?_
   clear hF hS; intro a w hF hS
   refine hK12 _ _ ?_
   clear hK12
   refine wp_ifn hF rfl (fun hc3 => ?_) (fun hc3 => ?_)
   ·obtain ⟨y9, hy9, hyt⟩ := Hu.pa_next hrx ha1 htx ha2 hc3
    refine wp_skip ?_
    refine hK11 _ _ ?_
    clear hK11
    refine wp_block ?_
    refine wp_seq_k ?_; intro K13 hK13
    refine regl ?_
    refine wpl_sq hF hS (sq rfl (q_ld_blkW ty26 1 rfl rfl bQ rfl) <|
      sq rfl (q_move rfl) <|
      sq_end) ?_
    clear hF hS; intro a w hF hS
    refine wpl_ef hF hS rfl (ef_call fn69 rfl (fun w hS => rabove_ct _ _ _ _ _ _ (by first | with_reducible assumption | omega) w hxn (Sl.mono (hS.le zin0) hxs) (Sl.mono (hS.le zin0) hxb))) ?_
    clear hF hS; rintro v4 _ _ a w ⟨_, _, rfl, rfl, ⟨zA, hzA, rfl, rfl⟩⟩ hF hS
    replace hS : St _ [_] [_, _] _ := hS
    refine wpl_sq hF hS (sq rfl (q_assign rfl) <|
      sq_end) ?_
    clear hF hS; intro a w hF hS
    refine wpList_nil ?_
    obtain ⟨la, hla⟩ : ∃ l, l = Hu.Ab.blw xs c := ⟨_, rfl⟩
    rw [← hla] at hzA hy9
    have hal9 := hzA.1
    obtain ⟨j9, hj9, hje⟩ := List.mem_iff_getElem.1 hy9
    have hjw : Gu.wi (la.getD j9 0) t = true := by rw [List.getD_eq_getElem?_getD, List.getElem?_eq_getElem hj9, Option.getD_some, hje]; exact hyt
    refine hK13 _ _ ?_
    clear hK13
    refine wp_seq_k ?_; intro K14 hK14
    refine reg hF hS (sq rfl (q_assign rfl) <|
      sq_end) ?_
    clear hF hS; intro a w hF hS
    refine hK14 _ _ ?_
    clear hK14
    refine wp_seq_k ?_; intro K15 hK15
    refine wp_block ?_
    obtain ⟨hs0, hhs0, hS⟩ : ∃ h, h = _ ∧ St _ _ h _ := ⟨_, rfl, hS⟩
    refine wp_loopx (γ := Int) (0) (fun (k : Int) => [(11, vi k)]) [(2, _), (3, _), (8, _), (10, _)] (fun (k : Int) => hs0) (fun (k : Int) => 0 ≤ k ∧ k < la.length ∧ ∀ j, j < k.toNat → Gu.wi (la.getD j 0) t = false) (fun (k : Int) => (la.length - k).toNat) (hF.sub ⟨rfl, rfl, rfl, rfl, rfl, trivial⟩) (by subst hhs0; exact hS) (by exact ⟨Int.le_refl _, by omega, fun j hj => absurd hj (by simp)⟩) ?_
    clear hF hS; rintro k a w hfact hF hS
    subst hhs0; (try dsimp only at hfact); (try dsimp only at hF); (try dsimp only at hS)
    obtain ⟨hk0, hk1, hnk⟩ := hfact
    replace hS : St _ [_] [_, _] _ := hS
    refine wp_seq_k ?_; intro K16 hK16
    refine wp_seq_k ?_; intro K17 hK17
    refine regl ?_
    refine wpl_sq hF hS (sq rfl (q_move rfl) <|
      sq rfl (q_addi rfl rfl (by omega)) <|
      sq rfl (q_move rfl) <|
      sq rfl (q_len_sl ty22 hzA rfl) <|
      sq rfl (q_lti rfl rfl) <|
      sq rfl (q_move rfl) <|
      sq_end) ?_
    clear hF hS; intro a w hF hS
    refine wpl_and 5 40 7 hF hS rfl rfl rfl rfl rfl (fun hg => have hg := (by first | exact of_decide_eq_true hg | exact hg); sq_go 40 rfl rfl rfl (q_move rfl) <|
      sq_go 40 rfl rfl rfl (q_move rfl) <|
      sq_go 40 rfl rfl rfl (q_idx_sl ty22 ty3 hzA rfl rfl (by omega)) <|
      sq_go 40 rfl rfl rfl (q_ld_I ty3 hzA (.inr (by simp)) rfl rfl (by omega)) <|
      sq_go 40 rfl rfl rfl (q_move rfl) <|
      sq_go 40 rfl rfl rfl (q_call fn48 rfl (fun w hS => in_ct _ _ w ) (fun _ _ _ h => h)) <|
      sq_go 40 rfl rfl rfl (q_not rfl) <|
      sq_end) rfl rfl ?_
    clear hF hS; intro a w hF hS
    refine wpList_nil ?_
    refine hK17 _ _ ?_
    clear hK17
    refine wp_if hF rfl (fun hc4 => ?_) (fun hc4 => ?_)
    ·(try simp only [Bool.or_eq_true, Bool.and_eq_true, Bool.or_eq_false_iff, Bool.and_eq_false_iff, decide_eq_true_eq, decide_eq_false_iff_not, Bool.not_eq_true', Bool.not_eq_false'] at hc4)
     refine wp_skip ?_
     refine hK16 _ _ ?_
     clear hK16
     refine wp_block ?_
     refine reg hF hS (sq rfl (q_move rfl) <|
       sq rfl (q_addi rfl rfl (by omega)) <|
       sq rfl (q_assign rfl) <|
       sq_end) ?_
     clear hF hS; intro a w hF hS
     refine ⟨(k + 1), ?_, ?_, hF.sub ⟨rfl, rfl, rfl, rfl, rfl, trivial⟩, ?_⟩
     ·(try dsimp only); omega
     ·refine ⟨by omega, by omega, fun j hj => ?_⟩
      rcases Nat.lt_or_ge j k.toNat with h | h
      ·exact hnk j h
      ·rw [show j = k.toNat by omega]; exact hc4.2
     ·exact hS
    ·(try simp only [Bool.or_eq_true, Bool.and_eq_true, Bool.or_eq_false_iff, Bool.and_eq_false_iff, decide_eq_true_eq, decide_eq_false_iff_not, Bool.not_eq_true', Bool.not_eq_false'] at hc4)
     have hkw : Gu.wi (la.getD k.toNat 0) t = true := by
      rcases hc4 with h | h
      ·by_cases hjk : j9 < k.toNat
       ·rw [hnk j9 hjk] at hjw; cases hjw
       ·rw [show k.toNat = j9 by omega]; exact hjw
      ·exact h
     have hkm : la.getD k.toNat 0 ∈ Hu.Ab.blw xs c := by rw [← hla]; exact getD_mem (by omega)
     have hkx := (Hu.ab_iff.1 hkm).1.1
     have hlt9 := Hu.mPa_lt hrx (hrx c ha1) hkm hkw
     refine wp_exit ?_
     refine hK15 _ _ ?_
     clear hK15
     refine wp_seq_k ?_; intro K18 hK18
     refine reg hF hS (sq rfl (q_move rfl) <|
       sq rfl (q_move rfl) <|
       sq rfl (q_idx_sl ty22 ty3 hzA rfl rfl (by omega)) <|
       sq rfl (q_ld_I ty3 hzA (.inr (by simp)) rfl rfl (by omega)) <|
       sq rfl (q_assign rfl) <|
       sq_end) ?_
     clear hF hS; intro a w hF hS
     refine hK18 _ _ ?_
     clear hK18
     refine regl ?_
     refine wpl_sq hF hS (sq rfl (q_move rfl) <|
       sq rfl (q_move rfl) <|
       sq_end) ?_
     clear hF hS; intro a w hF hS
     refine wpl_ef hF hS rfl (ef_bsliceA ty22 ty3 rfl rfl oQ (by decide) rfl rfl) ?_
     clear hF hS; rintro v5 _ _ a w ⟨rfl, rfl⟩ hF hS
     replace hS : St _ [_] [_, _, _] _ := hS
     refine wpl_ef hF hS rfl (ef_append ty22 ty3 1 rfl rfl rfl (src_row ty22 (k := 0) rfl oQ) bQ rfl (by decide)) ?_
     clear hF hS; rintro v7 _ _ a w ⟨rfl, rfl⟩ hF hS
     replace hS : St _ [_] [_, _, _] _ := hS
     refine wpl_sq hF hS (sq rfl (q_assign rfl) <|
       sq_end) ?_
     clear hF hS; intro a w hF hS
     refine wpList_nil ?_
     replace hS := hS.keep zQ (sQ.n)
     refine ⟨(v7, (la.getD k.toNat 0), L ++ [la.getD k.toNat 0]), ?_, ?_, hF.sub ⟨rfl, rfl, rfl, rfl, trivial⟩, ?_⟩
     ·(try dsimp only); omega
     ·exact ⟨⟨hkx, hkw⟩, by rw [List.length_append, List.length_singleton]; omega, fun x hx => (List.mem_append.1 hx).elim (hLx x) fun h => by rw [List.mem_singleton.1 h]; exact hkx⟩
     ·dsimp only; rw [List.length_append, List.map_append]; exact hS
   ·refine wp_exit ?_
    refine hK10 _ _ ?_
    clear hK10
    refine wp_seq_k ?_; intro K19 hK19
    refine reg hF hS (sq rfl (q_move rfl) <|
      sq rfl (q_assign rfl) <|
      sq rfl (q_assign rfl) <|
      sq_end) ?_
    clear hF hS; intro a w hF hS
    refine hK19 _ _ ?_
    clear hK19
    refine wp_ret ?_
    obtain ⟨zm, hzm, hS⟩ := St.freezeV (h0 := fun _ => rfl) (f := vi) (p := fun x => -9223372036854775808 ≤ x ∧ x ≤ 9223372036854775807) (xs := L) hS rfl (by omega) (fun x hx => sl_rng hxs x (hLx x hx))
    replace hS : St _ [_] [_] _ := hS
    exact fn_ret (rs := [.tmp 6, .tmp 7]) rfl hF hS (vs := [_, _]) ⟨rfl, rfl, trivial⟩ (zs' := [zm]) (hs' := []) (List.singleton_sublist.2 (by simp)) zQ ⟨_, L, 0, zm, rfl, hzm, by omega, rfl, rfl⟩

set_option maxRecDepth 4000 in
set_option maxHeartbeats 2000000 in
theorem apart_ct (a b : Int) (ha : -4294967296 ≤ a ∧ a ≤ 4294967296) (hb : -4294967296 ≤ b ∧ b ≤ 4294967296) (w : World) : Ct Try.prog 73 [vi a, vi b] w (fun r _ _ => r = vi (Hu.apt a b)) := by
 refine fn_enter Try.func73 rfl Try.ntmps73 (Nat.le_of_ble_eq_true rfl) fun a hF hS => ?_
 refine wp_seq_k ?_; intro K1 hK1
 refine reg hF hS (sq rfl (q_assign rfl) <|
   sq_end) ?_
 clear hF hS; intro a w hF hS
 refine hK1 _ _ ?_
 clear hK1
 refine wp_seq_k ?_; intro K2 hK2
 refine reg hF hS (sq rfl (q_move rfl) <|
   sq rfl (q_move rfl) <|
   sq rfl (q_subi rfl rfl (by omega)) <|
   sq rfl (q_move rfl) <|
   sq rfl (q_move rfl) <|
   sq rfl (q_subi rfl rfl (by omega)) <|
   sq rfl (q_max rfl rfl) <|
   sq rfl (q_assign rfl) <|
   sq_end) ?_
 clear hF hS; intro a w hF hS
 refine hK2 _ _ ?_
 clear hK2
 refine wp_ret ?_
 exact fn_ret (rs := [.tmp 4]) rfl hF hS (vs := [_]) ⟨rfl, trivial⟩ zQ zQ (rfl)

set_option maxRecDepth 4000 in
set_option maxHeartbeats 2000000 in
theorem rline_ct (xN xS xB : Value) (xs : List Int) (xb : List Bool) (kV mV : Value) (ks : List (List UInt8)) (ms : List Int) (v : Value) (p : List Int) (hl : xs.length < 1048576) (hpl : p.length < 1048576) (w : World) (hxn : xN.oneCell' = true) (hxs : Sl encI (ph w) xS xs) (hxb : Sl encT (ph w) xB xb) (hk : Sl (encA 16) (ph w) kV ks) (hm : Sl encI (ph w) mV ms) (hp : Sl encI (ph w) v p) : Ct Try.prog 42 [.agg [xN, xS, xB].toArray, .agg [kV, mV].toArray, v] w (fun r _ _ => r = Hu.lnV (Hu.lnR xs xb ks ms p)) := by
 refine fn_enter Try.func42 rfl Try.ntmps42 (Nat.le_of_ble_eq_true rfl) fun a hF hS => ?_
 have hsl := hxs.1
 have htl := hxb.1
 have hml := hm.1
 have hkl := hk.1
 have hpl9 := hp.1
 refine wp_seq_k ?_; intro K1 hK1
 refine regl ?_
 refine wpl_ef hF hS rfl (ef_boxA rfl) ?_
 clear hF hS; rintro _ _ _ a w ⟨b1, rfl, rfl, rfl⟩ hF hS
 refine wpl_ef hF hS rfl (ef_boxA rfl) ?_
 clear hF hS; rintro _ _ _ a w ⟨b2, rfl, rfl, rfl⟩ hF hS
 refine wpl_sq hF hS (sq rfl (q_assign rfl) <|
   sq rfl (q_assign rfl) <|
   sq rfl (q_assign rfl) <|
   sq_end) ?_
 clear hF hS; intro a w hF hS
 refine wpList_nil ?_
 refine hK1 _ _ ?_
 clear hK1
 refine wp_seq_k ?_; intro K2 hK2
 refine wp_seq_k ?_; intro K3 hK3
 refine regl ?_
 refine wpl_sq hF hS (sq rfl (q_ld_blkW ty26 1 rfl rfl bQ rfl) <|
   sq rfl (q_ld_blkW ty31 0 rfl rfl bQ rfl) <|
   sq rfl (q_call fn57 rfl (fun w hS => rfits_ct _ _ _ _ _ _ _ _ _ w hxn (Sl.mono (hS.le zin0) hxs) (Sl.mono (hS.le zin0) hxb) (Sl.mono (hS.le zin0) hk) (Sl.mono (hS.le zin0) hm)) (fun _ _ _ h => h)) <|
   sq rfl (q_not rfl) <|
   sq rfl (q_move rfl) <|
   sq_end) ?_
 clear hF hS; intro a w hF hS
 refine wpl_or 4 19 3 hF hS rfl rfl rfl rfl rfl (fun hg => have hg := hg; sq_go 19 rfl rfl rfl (q_move rfl) <|
   sq_go 19 rfl rfl rfl (q_len_sl ty22 hp rfl) <|
   sq_go 19 rfl rfl rfl (q_lti rfl rfl) <|
   sq_end) rfl rfl ?_
 clear hF hS; intro a w hF hS
 refine wpList_nil ?_
 refine hK3 _ _ ?_
 clear hK3
 refine wp_if hF rfl (fun hc1 => ?_) (fun hc1 => ?_)
 ·(try simp only [Bool.or_eq_true, Bool.and_eq_true, Bool.or_eq_false_iff, Bool.and_eq_false_iff, decide_eq_true_eq, decide_eq_false_iff_not, Bool.not_eq_true', Bool.not_eq_false'] at hc1)
  refine wp_seq_k ?_; intro K4 hK4
  refine reg hF hS (sq rfl (q_assign rfl) <|
    sq rfl (q_assign rfl) <|
    sq rfl (q_assign rfl) <|
    sq_end) ?_
  clear hF hS; intro a w hF hS
  refine hK4 _ _ ?_
  clear hK4
  refine wp_ret ?_
  exact fn_ret (rs := [.tmp 6, .tmp 7, .tmp 8]) rfl hF hS (vs := [_, _, _]) ⟨rfl, rfl, rfl, trivial⟩ zQ zQ (by rw [Hu.lnR_1 hc1]; rfl)
 ·(try simp only [Bool.or_eq_true, Bool.and_eq_true, Bool.or_eq_false_iff, Bool.and_eq_false_iff, decide_eq_true_eq, decide_eq_false_iff_not, Bool.not_eq_true', Bool.not_eq_false'] at hc1)
  have hfu := Hu.fit_use hc1.1
  refine wp_skip ?_
  refine hK2 _ _ ?_
  clear hK2
  refine wp_seq_k ?_; intro K5 hK5
  refine reg hF hS (sq rfl (q_assign rfl) <|
    sq_end) ?_
  clear hF hS; intro a w hF hS
  replace hS := hS.nilRow 3 1
  refine hK5 _ _ ?_
  clear hK5
  refine wp_seq_k ?_; intro K6 hK6
  refine wp_seq_k ?_; intro K7 hK7
  refine reg hF hS (sq rfl (q_assign rfl) <|
    sq_end) ?_
  clear hF hS; intro a w hF hS
  refine hK7 _ _ ?_
  clear hK7
  refine wp_block ?_
  obtain ⟨hs0, hhs0, hS⟩ : ∃ h, h = _ ∧ St _ _ h _ := ⟨_, rfl, hS⟩
  refine wp_loopx (γ := Value × Int) ((Value.slice none 0 0), 0) (fun (gg : Value × Int) => match gg with | (u, i) => [(9, u), (10, vi i)]) [(2, _), (3, _), (4, _)] (fun (gg : Value × Int) => match gg with | (u, i) => (hs0.set 0 (.row u 3 1 i.toNat ((Hu.ats xs (p.take i.toNat)).map vi)))) (fun (gg : Value × Int) => match gg with | (u, i) => 0 ≤ i ∧ i ≤ p.length ∧ ∀ k, k < i.toNat → 0 ≤ (Hu.ats xs p).getD k 0) (fun (gg : Value × Int) => match gg with | (u, i) => (p.length - i).toNat) (hF.sub ⟨rfl, rfl, rfl, rfl, rfl, trivial⟩) (by subst hhs0; exact hS) (by exact ⟨Int.le_refl _, by omega, fun k hk => absurd hk (by simp)⟩) ?_
  clear hF hS; rintro ⟨u, i⟩ a w hfact hF hS
  subst hhs0; (try dsimp only at hfact); (try dsimp only at hF); (try dsimp only at hS)
  obtain ⟨hi0, hi1, hno⟩ := hfact
  replace hS : St _ [] [_, _, _] _ := hS
  refine wp_seq_k ?_; intro K8 hK8
  refine wp_seq_k ?_; intro K9 hK9
  refine reg hF hS (sq rfl (q_move rfl) <|
    sq rfl (q_move rfl) <|
    sq rfl (q_len_sl ty22 hp rfl) <|
    sq rfl (q_lti rfl rfl) <|
    sq_end) ?_
  clear hF hS; intro a w hF hS
  refine hK9 _ _ ?_
  clear hK9
  refine wp_ifd hF rfl (fun hc2 => ?_) (fun hc2 => ?_)
  ·refine wp_skip ?_
   refine hK8 _ _ ?_
   clear hK8
   refine wp_seq_k ?_; intro K10 hK10
   refine wp_block ?_
   refine wp_seq_k ?_; intro K11 hK11
   revert hS; revert hF; apply regJ (J := J2 (α0 := Value) (α1 := Value) 134 _ _ _ _ _) #[false, false, false, false, false, false, false, false, false, false] 10 mixed rfl rfl
   ·intro w hF hS
    refine goW_take 0 _ rfl kQ rfl hF (hS.keep sQ zQ) (q_move rfl) ?_
    clear hF; intro a hF
    refine goW_take 1 _ rfl kQ rfl hF (hS.keep sQ (sQ.n.n)) (q_ld_blkW ty26 0 rfl rfl bQ rfl) ?_
    clear hF; intro a hF
    refine goW_take 2 _ rfl kQ rfl hF (hS.keep sQ zQ) (q_move rfl) ?_
    clear hF; intro a hF
    refine goW_take 3 _ rfl kQ rfl hF (hS.keep sQ zQ) (q_move rfl) ?_
    clear hF; intro a hF
    refine goW_take 4 _ rfl kQ rfl hF (hS.keep sQ zQ) (q_idx_sl ty22 ty3 hp rfl rfl (by omega)) ?_
    clear hF; intro a hF
    refine goW_take 5 _ rfl kQ rfl hF (hS.keep sQ zQ) (q_ld_I ty3 hp zin0 rfl rfl (by omega)) ?_
    clear hF; intro a hF
    refine gQ 6 rfl rfl hF hS rfl (ef_qt (q_call fn45 rfl (fun w hS => rix_ct _ _ _ _ _ _ w hxn (Sl.mono (hS.le zin0) hxs) (Sl.mono (hS.le zin0) hxb)) (fun _ _ _ h => h))) ?_
    clear hF hS; rintro _ _ _ a w ⟨rfl, rfl, rfl⟩ hF hS
    refine ⟨⟨iQ, iQ, .inr hS.k0, .inr hS.k0, iQ, .inr hS.k0, trivial⟩, ?_⟩
    refine gQ 7 rfl rfl hF hS rfl (ef_bsliceA ty22 ty3 rfl rfl oQ (by decide) rfl rfl) ?_
    clear hF hS; rintro v_7_7 _ _ a w ⟨rfl, rfl⟩ hF hS
    refine ⟨⟨iQ, iQ, .inr hS.k0, .inr hS.k0, iQ, .inr hS.k0, trivial⟩, ?_⟩
    refine gQ 8 rfl rfl hF hS rfl (ef_append ty22 ty3 1 rfl rfl rfl (src_row ty22 (k := 0) rfl oQ) bQ rfl (by decide)) ?_
    clear hF hS; rintro v_7_8 _ _ a w ⟨rfl, rfl⟩ hF hS
    refine ⟨⟨iQ, iQ, .inr hS.k0, .inr hS.k0, iQ, iQ, trivial⟩, ?_⟩
    refine goW_take 9 _ rfl kQ rfl hF (hS.keep sQ zQ) (q_assign rfl) ?_
    clear hF; intro a hF
    exact goW_done kQ (j2_mk v_7_7 v_7_8 (trivial) (hF.sub (L' := [(2, _), (3, _), (4, _), (9, _), (10, _)]) ⟨rfl, rfl, rfl, rfl, rfl, trivial⟩) hS)
   rintro a w ⟨v_7_7, v_7_8, -, hF, hS⟩
   (try dsimp only at hF); (try dsimp only at hS)
   replace hS := hS.perm (.swap _ _ _)
   replace hS := hS.rowEq (m' := i.toNat + 1) (cs' := (Hu.ats xs (p.take (i + 1).toNat)).map vi) (by first | rfl | omega | simp) (by rw [Hu.ats_snoc ⟨hi0, by omega⟩, List.map_append]; rfl)
   have hal9 : (Hu.ats xs (p.take (i + 1).toNat)).length = i.toNat + 1 := by rw [Hu.ats_len, List.length_take]; omega
   refine hK11 _ _ ?_
   clear hK11
   refine wp_seq_k ?_; intro K12 hK12
   refine reg hF hS (sq rfl (q_move rfl) <|
     sq rfl (q_move rfl) <|
     sq rfl (q_idx_row ty22 ty3 0 rfl rfl rfl (by omega)) <|
     sq rfl (q_ld_rowM ty3 0 (0 : Int) rfl rfl bQ rfl) <|
     sq rfl (q_lti rfl rfl) <|
     sq_end) ?_
   clear hF hS; intro a w hF hS
   refine hK12 _ _ ?_
   clear hK12
   refine wp_ifd hF rfl (fun hc3 => ?_) (fun hc3 => ?_)
   ·have hbd9 := Hu.ats_bad (xs := xs) (p := p) (i := i) ⟨hi0, by omega⟩ (by rw [← Hu.ats_tk ⟨hi0, by omega⟩]; exact hc3)
    refine wp_seq_k ?_; intro K13 hK13
    refine reg hF hS (sq rfl (q_assign rfl) <|
      sq rfl (q_assign rfl) <|
      sq rfl (q_assign rfl) <|
      sq_end) ?_
    clear hF hS; intro a w hF hS
    refine hK13 _ _ ?_
    clear hK13
    refine wp_ret ?_
    exact fn_ret (rs := [.tmp 6, .tmp 7, .tmp 8]) rfl hF hS (vs := [_, _, _]) ⟨rfl, rfl, rfl, trivial⟩ zQ zQ (by rw [Hu.lnR_6 hc1 hbd9]; rfl)
   ·have hgd9 : 0 ≤ (Hu.ats xs p).getD i.toNat 0 := by rw [← Hu.ats_tk ⟨hi0, by omega⟩]; omega
    refine wp_skip ?_
    refine hK10 _ _ ?_
    clear hK10
    refine reg hF hS (sq rfl (q_move rfl) <|
      sq rfl (q_addi rfl rfl (by omega)) <|
      sq rfl (q_assign rfl) <|
      sq_end) ?_
    clear hF hS; intro a w hF hS
    replace hS := hS.keep zQ (sQ.n.k)
    refine ⟨(v_7_8, i + 1), ?_, ?_, hF.sub ⟨rfl, rfl, rfl, rfl, rfl, trivial⟩, ?_⟩
    ·(try dsimp only); omega
    ·exact ⟨by omega, by omega, fun k hk => by
      rcases Nat.lt_or_ge k i.toNat with h | h
      ·exact hno k h
      ·rw [show k = i.toNat by omega]; exact hgd9⟩
    ·dsimp only; exact hS.rowEq (by omega) rfl
  ·obtain rfl : i = p.length := by omega
   rw [Int.toNat_natCast, List.take_length] at hS
   obtain ⟨Aa, hAa⟩ : ∃ A, A = Hu.ats xs p := ⟨_, rfl⟩
   have hAl : Aa.length = p.length := by rw [hAa, Hu.ats_len]
   have hA3 : (-1 : Int) ∉ Aa := by rw [hAa]; exact Hu.ats_ok fun k hk => hno k (by omega)
   rw [← hAa] at hS
   replace hS := hS.rowEq hAl.symm rfl
   have hArg : ∀ x ∈ Aa, -9223372036854775808 ≤ x ∧ x ≤ 9223372036854775807 := by rw [hAa]; exact Hu.ats_rg (by omega)
   have hA9 : ∀ x ∈ Aa, 0 ≤ x ∧ x < xs.length := by rw [hAa]; exact Hu.ats_all (by rw [← hAa]; exact hA3)
   have hAg : ∀ k, k < Aa.length → 0 ≤ Aa.getD k 0 ∧ Aa.getD k 0 < xs.length := fun k hk9 => hA9 _ (getD_mem hk9)
   have hAg0 := hAg (Int.toNat 0) (by show 0 < Aa.length; omega)
   have hAg1 := hAg ((Aa.length : Int) - 1).toNat (by omega)
   refine wp_exit ?_
   refine hK6 _ _ ?_
   clear hK6
   refine wp_seq_k ?_; intro K14 hK14
   refine wp_seq_k ?_; intro K15 hK15
   refine regq mixed kQ hS ?_
   refine wpq_seg hF (sq rfl (q_fieldAddr ty31 rfl rfl (s' := 0) kQ) <|
     sq rfl (q_ld_blk1 ty22 1 rfl rfl rfl rfl) <|
     sq rfl (q_move rfl) <|
     sq rfl (q_idx_row ty22 ty3 0 rfl rfl rfl (by omega)) <|
     sq rfl (q_ld_rowM ty3 0 (0 : Int) rfl rfl bQ rfl) <|
     sq rfl (q_idx_sl ty22 ty3 hm rfl rfl (by omega)) <|
     sq rfl (q_ld_I ty3 hm zin0 rfl rfl (by omega)) <|
     sq rfl (q_nei rfl rfl) <|
     sq rfl (q_move rfl) <|
     sq_end) ?_
   clear hF; intro a hF
   refine wpq_or 8 52 11 hF rfl rfl rfl rfl rfl (fun hg => have hg := (nd_false hg); sq_go 52 rfl rfl rfl (q_fieldAddr ty31 rfl rfl (s' := 0) kQ) <|
     sq_go 52 rfl rfl rfl (q_ld_blk1 ty22 1 rfl rfl rfl rfl) <|
     sq_go 52 rfl rfl rfl (q_move rfl) <|
     sq_go 52 rfl rfl rfl (q_move rfl) <|
     sq_go 52 rfl rfl rfl (q_len_row ty22 0 rfl rfl) <|
     sq_go 52 rfl rfl rfl (q_subi rfl rfl (by omega)) <|
     sq_go 52 rfl rfl rfl (q_idx_row ty22 ty3 0 rfl rfl rfl (by omega)) <|
     sq_go 52 rfl rfl rfl (q_ld_rowM ty3 0 (0 : Int) rfl rfl bQ rfl) <|
     sq_go 52 rfl rfl rfl (q_idx_sl ty22 ty3 hm rfl rfl (by omega)) <|
     sq_go 52 rfl rfl rfl (q_ld_I ty3 hm zin0 rfl rfl (by omega)) <|
     sq_go 52 rfl rfl rfl (q_nei rfl rfl) <|
     sq_end) rfl rfl ?_
   clear hF; intro a hF
   refine wpq_nil ?_
   clear hS; intro w hS
   refine hK15 _ _ ?_
   clear hK15
   refine wp_if hF rfl (fun hc4 => ?_) (fun hc4 => ?_)
   ·(try simp only [Bool.or_eq_true, Bool.and_eq_true, Bool.or_eq_false_iff, Bool.and_eq_false_iff, decide_eq_true_eq, decide_eq_false_iff_not, Bool.not_eq_true', Bool.not_eq_false'] at hc4)
    refine wp_seq_k ?_; intro K16 hK16
    refine reg hF hS (sq rfl (q_assign rfl) <|
      sq rfl (q_assign rfl) <|
      sq rfl (q_assign rfl) <|
      sq_end) ?_
    clear hF hS; intro a w hF hS
    refine hK16 _ _ ?_
    clear hK16
    refine wp_ret ?_
    exact fn_ret (rs := [.tmp 6, .tmp 7, .tmp 8]) rfl hF hS (vs := [_, _, _]) ⟨rfl, rfl, rfl, trivial⟩ zQ zQ (Hu.lnV_14 hAa hc1 hA3 hc4)
   ·(try simp only [Bool.or_eq_true, Bool.and_eq_true, Bool.or_eq_false_iff, Bool.and_eq_false_iff, decide_eq_true_eq, decide_eq_false_iff_not, Bool.not_eq_true', Bool.not_eq_false'] at hc4)
    have hlh := Hu.lnH_rng (ms := ms) (A := Aa) (by omega) hc4.1 (by have h9 := hc4.2; rw [show ((Aa.length : Int) - 1).toNat = Aa.length - 1 by omega] at h9; exact h9)
    refine wp_skip ?_
    refine hK14 _ _ ?_
    clear hK14
    refine wp_seq_k ?_; intro K17 hK17
    refine reg hF hS (sq rfl (q_assign rfl) <|
      sq_end) ?_
    clear hF hS; intro a w hF hS
    refine hK17 _ _ ?_
    clear hK17
    refine wp_seq_k ?_; intro K18 hK18
    refine wp_block ?_
    obtain ⟨hs0, hhs0, hS⟩ : ∃ h, h = _ ∧ St _ _ h _ := ⟨_, rfl, hS⟩
    refine wp_loopx (γ := Int) (0) (fun (g : Int) => [(11, vi g)]) [(2, _), (3, _), (4, _), (9, _)] (fun (g : Int) => hs0) (fun (g : Int) => 0 ≤ g ∧ g ≤ Hu.lnH ms Aa) (fun (g : Int) => (Hu.lnH ms Aa - g).toNat) (hF.sub ⟨rfl, rfl, rfl, rfl, rfl, trivial⟩) (by subst hhs0; exact hS) (by exact ⟨Int.le_refl _, by omega⟩) ?_
    clear hF hS; rintro g a w hfact hF hS
    subst hhs0; (try dsimp only at hfact); (try dsimp only at hF); (try dsimp only at hS)
    obtain ⟨hg0, hg1⟩ := hfact
    replace hS : St _ [] [_, _, _] _ := hS
    have hAgg := hAg g.toNat (by omega)
    refine wp_seq_k ?_; intro K19 hK19
    refine wp_seq_k ?_; intro K20 hK20
    refine regd mixed kQ hF hS (sq rfl (q_fieldAddr ty31 rfl rfl (s' := 0) kQ) <|
      sq rfl (q_ld_blk1 ty22 1 rfl rfl rfl rfl) <|
      sq rfl (q_move rfl) <|
      sq rfl (q_move rfl) <|
      sq rfl (q_idx_row ty22 ty3 0 rfl rfl rfl (by omega)) <|
      sq rfl (q_ld_rowM ty3 0 (0 : Int) rfl rfl bQ rfl) <|
      sq rfl (q_idx_sl ty22 ty3 hm rfl rfl (by omega)) <|
      sq rfl (q_ld_I ty3 hm zin0 rfl rfl (by omega)) <|
      sq rfl (q_nei rfl rfl) <|
      sq_end) ?_
    clear hF hS; intro a w hF hS
    refine hK20 _ _ ?_
    clear hK20
    refine wp_ifn hF rfl (fun hc5 => ?_) (fun hc5 => ?_)
    ·have hne9 : g ≠ Hu.lnH ms Aa := fun e => by rw [e] at hc5; exact hc5 hlh.2.2
     refine wp_skip ?_
     refine hK19 _ _ ?_
     clear hK19
     refine wp_block ?_
     refine reg hF hS (sq rfl (q_move rfl) <|
       sq rfl (q_addi rfl rfl (by omega)) <|
       sq rfl (q_assign rfl) <|
       sq_end) ?_
     clear hF hS; intro a w hF hS
     refine ⟨(g + 1), ?_, ?_, hF.sub ⟨rfl, rfl, rfl, rfl, rfl, trivial⟩, ?_⟩
     ·(try dsimp only); omega
     ·exact ⟨by omega, by omega⟩
     ·exact hS
    ·have hge : g = Hu.lnH ms Aa := by
      rcases Int.lt_or_le g (Hu.lnH ms Aa) with h | h
      ·exact absurd hc5 (Hu.lnH_min hg0 h)
      ·omega
     subst hge
     refine wp_exit ?_
     refine hK18 _ _ ?_
     clear hK18
     refine wp_seq_k ?_; intro K21 hK21
     refine reg hF hS (sq rfl (q_move rfl) <|
       sq rfl (q_subi rfl rfl (by omega)) <|
       sq rfl (q_assign rfl) <|
       sq_end) ?_
     clear hF hS; intro a w hF hS
     refine hK21 _ _ ?_
     clear hK21
     refine wp_seq_k ?_; intro K22 hK22
     refine wp_block ?_
     obtain ⟨hs0, hhs0, hS⟩ : ∃ h, h = _ ∧ St _ _ h _ := ⟨_, rfl, hS⟩
     refine wp_loopx (γ := Int) (Hu.lnH ms Aa - 1) (fun (lo : Int) => [(12, vi lo)]) [(2, _), (3, _), (4, _), (9, _), (11, _)] (fun (lo : Int) => hs0) (fun (lo : Int) => 0 ≤ lo ∧ lo < Hu.lnH ms Aa ∧ Hu.lnLow ms Aa = Hu.lnLo ms Aa (lo + 1).toNat) (fun (lo : Int) => lo.toNat) (hF.sub ⟨rfl, rfl, rfl, rfl, rfl, rfl, trivial⟩) (by subst hhs0; exact hS) (by exact ⟨by omega, by omega, by unfold Hu.lnLow; rw [show Hu.lnH ms Aa - 1 + 1 = Hu.lnH ms Aa by omega]⟩) ?_
     clear hF hS; rintro lo a w hfact hF hS
     subst hhs0; (try dsimp only at hfact); (try dsimp only at hF); (try dsimp only at hS)
     obtain ⟨hlo0, hlo1, hlo2⟩ := hfact
     replace hS : St _ [] [_, _, _] _ := hS
     have hAgl := hAg lo.toNat (by omega)
     refine wp_seq_k ?_; intro K23 hK23
     refine wp_seq_k ?_; intro K24 hK24
     refine regd mixed kQ hF hS (sq rfl (q_fieldAddr ty31 rfl rfl (s' := 0) kQ) <|
       sq rfl (q_ld_blk1 ty22 1 rfl rfl rfl rfl) <|
       sq rfl (q_move rfl) <|
       sq rfl (q_move rfl) <|
       sq rfl (q_idx_row ty22 ty3 0 rfl rfl rfl (by omega)) <|
       sq rfl (q_ld_rowM ty3 0 (0 : Int) rfl rfl bQ rfl) <|
       sq rfl (q_idx_sl ty22 ty3 hm rfl rfl (by omega)) <|
       sq rfl (q_ld_I ty3 hm zin0 rfl rfl (by omega)) <|
       sq rfl (q_nei rfl rfl) <|
       sq_end) ?_
     clear hF hS; intro a w hF hS
     refine hK24 _ _ ?_
     clear hK24
     refine wp_ifn hF rfl (fun hc6 => ?_) (fun hc6 => ?_)
     ·have hl9 : lo ≠ 0 := fun e => by rw [e] at hc6; exact hc6 hc4.1
      refine wp_skip ?_
      refine hK23 _ _ ?_
      clear hK23
      refine wp_block ?_
      refine reg hF hS (sq rfl (q_move rfl) <|
        sq rfl (q_subi rfl rfl (by omega)) <|
        sq rfl (q_assign rfl) <|
        sq_end) ?_
      clear hF hS; intro a w hF hS
      refine ⟨(lo - 1), ?_, ?_, hF.sub ⟨rfl, rfl, rfl, rfl, rfl, rfl, trivial⟩, ?_⟩
      ·(try dsimp only); omega
      ·exact ⟨by omega, by omega, by rw [hlo2, Hu.lnLo_dn hlo0 hc6]⟩
      ·exact hS
     ·have hle : lo = Hu.lnLow ms Aa := by rw [hlo2, Hu.lnLo_at hlo0 hc6]
      subst hle
      have hmd := Hu.lnMid_rng (ms := ms) (A := Aa) hlo0 (by omega)
      refine wp_exit ?_
      refine hK22 _ _ ?_
      clear hK22
      refine wp_seq_k ?_; intro K25 hK25
      refine reg hF hS (sq rfl (q_assign rfl) <|
        sq_end) ?_
      clear hF hS; intro a w hF hS
      refine hK25 _ _ ?_
      clear hK25
      refine wp_seq_k ?_; intro K26 hK26
      refine wp_seq_k ?_; intro K27 hK27
      refine reg hF hS (sq rfl (q_move rfl) <|
        sq rfl (q_addi rfl rfl (by omega)) <|
        sq rfl (q_assign rfl) <|
        sq_end) ?_
      clear hF hS; intro a w hF hS
      refine hK27 _ _ ?_
      clear hK27
      refine wp_block ?_
      obtain ⟨hs0, hhs0, hS⟩ : ∃ h, h = _ ∧ St _ _ h _ := ⟨_, rfl, hS⟩
      refine wp_loopx (γ := Int) (Hu.lnLow ms Aa + 1) (fun (i : Int) => [(13, vi (Hu.lnBs xb Aa (Hu.lnMid ms Aa) (Hu.lnLow ms Aa) (i - Hu.lnLow ms Aa - 1).toNat)), (14, vi i)]) [(2, _), (3, _), (9, _), (11, _), (12, _)] (fun (i : Int) => hs0) (fun (i : Int) => Hu.lnLow ms Aa + 1 ≤ i ∧ i ≤ Hu.lnH ms Aa) (fun (i : Int) => (Hu.lnH ms Aa - i).toNat) (hF.sub ⟨(by rw [show (Hu.lnLow ms Aa + 1 - Hu.lnLow ms Aa - 1).toNat = 0 by omega]; rfl), rfl, rfl, rfl, rfl, rfl, rfl, trivial⟩) (by subst hhs0; exact hS) (by exact ⟨Int.le_refl _, by omega⟩) ?_
      clear hF hS; rintro i a w hfact hF hS
      subst hhs0; (try dsimp only at hfact); (try dsimp only at hF); (try dsimp only at hS)
      obtain ⟨hi0, hi1⟩ := hfact
      replace hS : St _ [] [_, _, _] _ := hS
      refine wp_seq_k ?_; intro K28 hK28
      refine wp_seq_k ?_; intro K29 hK29
      refine reg hF hS (sq rfl (q_move rfl) <|
        sq rfl (q_move rfl) <|
        sq rfl (q_lti rfl rfl) <|
        sq_end) ?_
      clear hF hS; intro a w hF hS
      refine hK29 _ _ ?_
      clear hK29
      refine wp_ifd hF rfl (fun hc7 => ?_) (fun hc7 => ?_)
      ·have hAgi := hAg i.toNat (by omega)
       have hbr := Hu.lnBs_rng (xb := xb) (A := Aa) (mid := Hu.lnMid ms Aa) (lo := Hu.lnLow ms Aa) hlo0 (i - Hu.lnLow ms Aa - 1).toNat
       refine wp_skip ?_
       refine hK28 _ _ ?_
       clear hK28
       refine wp_seq_k ?_; intro K30 hK30
       refine wp_block ?_
       refine wp_seq_k ?_; intro K31 hK31
       refine regq mixed kQ hS ?_
       refine wpq_seg hF (sq rfl (q_fieldAddr ty26 rfl rfl (s' := 0) kQ) <|
         sq rfl (q_ld_blk1 ty24 2 rfl rfl rfl rfl) <|
         sq rfl (q_move rfl) <|
         sq rfl (q_move rfl) <|
         sq rfl (q_idx_row ty22 ty3 0 rfl rfl rfl (by omega)) <|
         sq rfl (q_ld_rowM ty3 0 (0 : Int) rfl rfl bQ rfl) <|
         sq rfl (q_idx_sl ty24 ty4 hxb rfl rfl (by omega)) <|
         sq rfl (q_ld_T ty4 hxb zin0 rfl rfl (by omega)) <|
         sq rfl (q_move rfl) <|
         sq_end) ?_
       clear hF; intro a hF
       refine wpq_andG (q := (decide ((Hu.lnBs xb Aa (Hu.lnMid ms Aa) (Hu.lnLow ms Aa) (i - Hu.lnLow ms Aa - 1).toNat) < 0) || decide (Hu.apt i ((Hu.lnLow ms Aa + Hu.lnH ms Aa) / 2) < Hu.apt (Hu.lnBs xb Aa (Hu.lnMid ms Aa) (Hu.lnLow ms Aa) (i - Hu.lnLow ms Aa - 1).toNat) ((Hu.lnLow ms Aa + Hu.lnH ms Aa) / 2)))) 104 17 hF rfl (by rfl) rfl (by exact trivial) (fun _ => sq_skip 104 rfl rfl rfl rfl <|
         sq_skip 104 rfl rfl rfl rfl <|
         sq_skip 104 rfl rfl rfl rfl <|
         sq_skipu 107 rfl rfl rfl <|
         sq_skipu 107 rfl rfl rfl <|
         sq_skipu 107 rfl rfl rfl <|
         sq_skipu 107 rfl rfl rfl <|
         sq_skipu 107 rfl rfl rfl <|
         sq_skipu 107 rfl rfl rfl <|
         sq_skipu 107 rfl rfl rfl <|
         sq_skipu 107 rfl rfl rfl <|
         sq_skipu 107 rfl rfl rfl <|
         sq_skipu 107 rfl rfl rfl <|
         sq_skipu 107 rfl rfl rfl <|
         sq_skipu 107 rfl rfl rfl <|
         sq_skipu 107 rfl rfl rfl <|
         sq_skip 104 rfl rfl rfl rfl <|
         sq_end) rfl (fun hg a hF KG => ?_) ?_
       ·have hg := hg
        refine wpq_seg hF (sq_go 104 rfl rfl rfl (q_move rfl) <|
          sq_go 104 rfl rfl rfl (q_lti rfl rfl) <|
          sq_go 104 rfl rfl rfl (q_move rfl) <|
          sq_end) ?_
        clear hF; intro a hF
        refine wpq_orP 11 107 13 8 104 hF rfl rfl rfl rfl rfl rfl rfl (fun hg => have hg := (by first | exact of_decide_eq_false hg | exact hg); sq_go 107 rfl rfl rfl (q_move rfl) <|
          sq_go 107 rfl rfl rfl (q_move rfl) <|
          sq_go 107 rfl rfl rfl (q_move rfl) <|
          sq_go 107 rfl rfl rfl (q_addi rfl rfl (by omega)) <|
          sq_go 107 rfl rfl rfl (q_quoi rfl rfl (by omega)) <|
          sq_go 107 rfl rfl rfl (q_call fn73 rfl (fun w hS => apart_ct _ _ (by omega) (by omega) w ) (fun _ _ _ h => h)) <|
          sq_go 107 rfl rfl rfl (q_move rfl) <|
          sq_go 107 rfl rfl rfl (q_move rfl) <|
          sq_go 107 rfl rfl rfl (q_move rfl) <|
          sq_go 107 rfl rfl rfl (q_addi rfl rfl (by omega)) <|
          sq_go 107 rfl rfl rfl (q_quoi rfl rfl (by omega)) <|
          sq_go 107 rfl rfl rfl (q_call fn73 rfl (fun w hS => apart_ct _ _ (by omega) (by omega) w ) (fun _ _ _ h => h)) <|
          sq_go 107 rfl rfl rfl (q_lti rfl rfl) <|
          sq_end) rfl rfl ?_
        clear hF; intro a hF
        refine wpq_seg hF (sq rfl (q_pick_t rfl rfl) <|
          sq_end) ?_
        clear hF; intro a hF
        exact KG _ (hF.under 4 rfl rfl)
       clear hF; intro a hF
       refine wpq_nil ?_
       clear hS; intro w hS
       refine hK31 _ _ ?_
       clear hK31
       refine wp_if hF rfl (fun hc8 => ?_) (fun hc8 => ?_)
       ·(try simp only [Bool.or_eq_true, Bool.and_eq_true, Bool.or_eq_false_iff, Bool.and_eq_false_iff, decide_eq_true_eq, decide_eq_false_iff_not, Bool.not_eq_true', Bool.not_eq_false'] at hc8)
        refine reg hF hS (sq rfl (q_move rfl) <|
          sq rfl (q_assign rfl) <|
          sq_end) ?_
        clear hF hS; intro a w hF hS
        refine hK30 _ _ ?_
        clear hK30
        refine reg hF hS (sq rfl (q_move rfl) <|
          sq rfl (q_addi rfl rfl (by omega)) <|
          sq rfl (q_assign rfl) <|
          sq_end) ?_
        clear hF hS; intro a w hF hS
        refine ⟨(i + 1), ?_, ?_, hF.sub ⟨(by rw [Hu.lnBs_t hi0 hc8]; rfl), rfl, rfl, rfl, rfl, rfl, rfl, trivial⟩, ?_⟩
        ·(try dsimp only); omega
        ·(try dsimp only); omega
        ·exact hS
       ·(try simp only [Bool.or_eq_true, Bool.and_eq_true, Bool.or_eq_false_iff, Bool.and_eq_false_iff, decide_eq_true_eq, decide_eq_false_iff_not, Bool.not_eq_true', Bool.not_eq_false'] at hc8)
        refine wp_skip ?_
        refine hK30 _ _ ?_
        clear hK30
        refine reg hF hS (sq rfl (q_move rfl) <|
          sq rfl (q_addi rfl rfl (by omega)) <|
          sq rfl (q_assign rfl) <|
          sq_end) ?_
        clear hF hS; intro a w hF hS
        refine ⟨(i + 1), ?_, ?_, hF.sub ⟨(by rw [Hu.lnBs_f hi0 (by rintro ⟨h8, h9⟩; rcases hc8 with h | h; (rw [h] at h8; cases h8); rcases h9 with h9 | h9; exact h.1 h9; exact h.2 h9)]; rfl), rfl, rfl, rfl, rfl, rfl, rfl, trivial⟩, ?_⟩
        ·(try dsimp only); omega
        ·(try dsimp only); omega
        ·exact hS
      ·obtain rfl : i = Hu.lnH ms Aa := by omega
       obtain ⟨bb, hbb⟩ : ∃ b, b = Hu.lnB xb ms Aa := ⟨_, rfl⟩
       rw [show (Hu.lnBs xb Aa (Hu.lnMid ms Aa) (Hu.lnLow ms Aa) (Hu.lnH ms Aa - Hu.lnLow ms Aa - 1).toNat) = bb from hbb.symm] at hF
       have hbr : -1 ≤ bb ∧ bb < Hu.lnH ms Aa := by have := Hu.lnBs_rng (xb := xb) (A := Aa) (mid := Hu.lnMid ms Aa) (lo := Hu.lnLow ms Aa) hlo0 (Hu.lnH ms Aa - Hu.lnLow ms Aa - 1).toNat; rw [hbb]; unfold Hu.lnB; omega
       refine wp_exit ?_
       refine hK26 _ _ ?_
       clear hK26
       refine wp_seq_k ?_; intro K32 hK32
       refine wp_seq_k ?_; intro K33 hK33
       refine reg hF hS (sq rfl (q_move rfl) <|
         sq rfl (q_lti rfl rfl) <|
         sq_end) ?_
       clear hF hS; intro a w hF hS
       refine hK33 _ _ ?_
       clear hK33
       refine wp_ifd hF rfl (fun hc9 => ?_) (fun hc9 => ?_)
       ·refine wp_seq_k ?_; intro K34 hK34
        refine reg hF hS (sq rfl (q_move rfl) <|
          sq rfl (q_move rfl) <|
          sq rfl (q_idx_sl ty22 ty3 hp rfl rfl (by omega)) <|
          sq rfl (q_ld_I ty3 hp zin0 rfl rfl (by omega)) <|
          sq rfl (q_assign rfl) <|
          sq rfl (q_assign rfl) <|
          sq rfl (q_assign rfl) <|
          sq_end) ?_
        clear hF hS; intro a w hF hS
        refine hK34 _ _ ?_
        clear hK34
        refine wp_ret ?_
        exact fn_ret (rs := [.tmp 6, .tmp 7, .tmp 8]) rfl hF hS (vs := [_, _, _]) ⟨rfl, rfl, rfl, trivial⟩ zQ zQ (Hu.lnV_a hAa hc1 hA3 hc4 (by omega))
       ·refine wp_skip ?_
        refine hK32 _ _ ?_
        clear hK32
        refine wp_seq_k ?_; intro K35 hK35
        refine reg hF hS (sq rfl (q_move rfl) <|
          sq rfl (q_move rfl) <|
          sq rfl (q_idx_sl ty22 ty3 hp rfl rfl (by omega)) <|
          sq rfl (q_ld_I ty3 hp zin0 rfl rfl (by omega)) <|
          sq rfl (q_assign rfl) <|
          sq rfl (q_assign rfl) <|
          sq rfl (q_assign rfl) <|
          sq_end) ?_
        clear hF hS; intro a w hF hS
        refine hK35 _ _ ?_
        clear hK35
        refine wp_ret ?_
        exact fn_ret (rs := [.tmp 6, .tmp 7, .tmp 8]) rfl hF hS (vs := [_, _, _]) ⟨rfl, rfl, rfl, trivial⟩ zQ zQ (by rw [hbb]; exact Hu.lnV_b hAa hc1 hA3 hc4 (by omega))
end Go.Proofs.Ytefjpigmgmbghaa
