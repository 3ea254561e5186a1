/- A text of a proof over this seat: walks over the program's functions and the plain laws that they need. -/
import Derived.Test.YtefjpigmgmbghaaHu22
import Derived.Test.YtefjpigmgmbghaaHpA
import Derived.Test.YtefjpigmgmbghaaFwD
import Derived.Test.YtefjpigmgmbghaaFwB
set_option linter.all false
namespace Go.Proofs.Ytefjpigmgmbghaa
open Go.Fw
theorem ty84 : Tf Try.prog 84 (.func #[3, 3] #[4] false) 1 8 (Value.nilFunc) := ⟨Try.underlying84, by kernel_rfl⟩
theorem fn74 : FnOk Try.prog 74 := ⟨_, Try.func74, rfl, by kernel_rfl⟩
theorem fn75 : FnOk Try.prog 75 := ⟨_, Try.func75, rfl, by kernel_rfl⟩
theorem fn76 : FnOk Try.prog 76 := ⟨_, Try.func76, rfl, by kernel_rfl⟩
theorem fn80 : FnOk Try.prog 80 := ⟨_, Try.func80, rfl, by kernel_rfl⟩
theorem fn81 : FnOk Try.prog 81 := ⟨_, Try.func81, rfl, by kernel_rfl⟩
theorem fn82 : FnOk Try.prog 82 := ⟨_, Try.func82, rfl, by kernel_rfl⟩
theorem fn83 : FnOk Try.prog 83 := ⟨_, Try.func83, rfl, by kernel_rfl⟩
theorem fn84 : FnOk Try.prog 84 := ⟨_, Try.func84, rfl, by kernel_rfl⟩

set_option maxRecDepth 4000 in
set_option maxHeartbeats 2000000 in
theorem extreme1_ct (t s : Int) (fv : Value) (b1 b2 : Nat) (q : Int → Int → Prop) (p : Int → Int → Bool) (hq : q t s) (w : World) (hb1 : w.heap[b1]? = some (.cells [vi s].toArray 3 (0, 0))) (hb2 : w.heap[b2]? = some (.cells [fv].toArray 84 (0, 0))) (hf : Fn2 Try.prog w fv q p) : Ct Try.prog 84 [vi t, .pointer (some ⟨b1, 0, none⟩), .pointer (some ⟨b2, 0, none⟩)] w (fun r _ _ => r = .bool (!decide (t = s) && p t s)) := by
 refine fn_enter Try.func84 rfl Try.ntmps84 (Nat.le_of_ble_eq_true rfl) fun a hF hS => ?_
 refine wp_seq_k ?_; intro K1 hK1
 refine reg hF hS (sq rfl (q_assign rfl) <|
   sq_end) ?_
 clear hF hS; intro a w hF hS
 refine hK1 _ _ ?_
 clear hK1
 refine wp_seq_k ?_; intro K2 hK2
 refine regl ?_
 refine wpl_sq hF hS (sq rfl (q_move rfl) <|
   sq rfl (q_ld_old1 ty3 rfl hb1 rfl rfl) <|
   sq rfl (q_nei rfl rfl) <|
   sq rfl (q_move rfl) <|
   sq_end) ?_
 clear hF hS; intro a w hF hS
 refine wpl_and 3 8 4 hF hS rfl rfl rfl rfl rfl (fun hg => have hg := (nd_true hg); sq_go 8 rfl rfl rfl (q_ld_old1 ty84 rfl hb2 rfl rfl) <|
   sq_go 8 rfl rfl rfl (q_move rfl) <|
   sq_go 8 rfl rfl rfl (q_ld_old1 ty3 rfl hb1 rfl rfl) <|
   sq_go 8 rfl rfl rfl (q_fn2 hf rfl rfl rfl hq) <|
   sq_end) rfl rfl ?_
 clear hF hS; intro a w hF hS
 refine wpl_sq hF hS (sq rfl (q_assign rfl) <|
   sq_end) ?_
 clear hF hS; intro a w hF hS
 refine wpList_nil ?_
 refine hK2 _ _ ?_
 clear hK2
 refine wp_ret ?_
 exact fn_ret (rs := [.tmp 4]) rfl hF hS (vs := [_]) ⟨rfl, trivial⟩ zQ zQ (rfl)

set_option maxRecDepth 4000 in
set_option maxHeartbeats 2000000 in
theorem extreme_ct (v fv : Value) (l : List Int) (q : Int → Int → Prop) (p : Int → Int → Bool) (hq : ∀ x y, x ∈ l → y ∈ l → q x y) (hl : l.length < 1048576) (w : World) (hb : Sl encI (ph w) v l) (hf : Fn2 Try.prog w fv q p) : Ct Try.prog 82 [v, fv] w (SlR encI (Gu.extr p l l.length)) := by
 refine fn_enter Try.func82 rfl Try.ntmps82 (Nat.le_of_ble_eq_true rfl) fun a hF hS => ?_
 refine wp_seq_k ?_; intro K1 hK1
 refine regl ?_
 refine wpl_ef hF hS rfl (ef_box1 rfl hf.one) ?_
 clear hF hS; rintro _ _ _ a w ⟨b1, rfl, rfl, rfl⟩ hF hS
 refine wpl_sq hF hS (sq rfl (q_assign rfl) <|
   sq_end) ?_
 clear hF hS; intro a w hF hS
 refine wpList_nil ?_
 refine hK1 _ _ ?_
 clear hK1
 refine wp_seq_k ?_; intro K2 hK2
 refine reg hF hS (sq rfl (q_assign rfl) <|
   sq_end) ?_
 clear hF hS; intro a w hF hS
 replace hS := hS.nilRow 3 1
 refine hK2 _ _ ?_
 clear hK2
 refine wp_seq_k ?_; intro K3 hK3
 refine wp_seq_k ?_; intro K4 hK4
 refine reg hF hS (sq rfl (q_move rfl) <|
   sq rfl (q_len_sl ty22 hb rfl) <|
   sq rfl (q_move rfl) <|
   sq_end) ?_
 clear hF hS; intro a w hF hS
 refine hK4 _ _ ?_
 clear hK4
 refine wp_block ?_
 obtain ⟨hs0, hhs0, hS⟩ : ∃ h, h = _ ∧ St _ _ h _ := ⟨_, rfl, hS⟩
 refine wp_loopx (γ := Value × Int) ((Value.slice none 0 0), 0) (fun (gg : Value × Int) => match gg with | (u, k) => [(5, u), (10, vi k)]) [(0, _), (3, _), (8, _), (9, _)] (fun (gg : Value × Int) => match gg with | (u, k) => (hs0.set 0 (.row u 3 1 (Gu.extr p l k.toNat).length ((Gu.extr p l k.toNat).map vi)))) (fun (gg : Value × Int) => match gg with | (u, k) => 0 ≤ k ∧ k ≤ l.length) (fun (gg : Value × Int) => match gg with | (u, k) => (l.length - k).toNat) (hF.sub ⟨rfl, rfl, rfl, rfl, rfl, rfl, trivial⟩) (by subst hhs0; exact hS) (by exact ⟨Int.le_refl _, by omega⟩) ?_
 clear hF hS; rintro ⟨u, k⟩ a w hfact hF hS
 subst hhs0; (try dsimp only at hfact); (try dsimp only at hF); (try dsimp only at hS)
 obtain ⟨hk0, hk1⟩ := hfact
 replace hS : St _ [] [_, _] _ := hS
 have hel := Gu.extr_len p l k.toNat
 have hrg := fun x hx => sl_rng hb x (Gu.extr_mem p l k.toNat (by omega) x hx)
 refine wp_seq_k ?_; intro K5 hK5
 refine reg hF hS (sq rfl (q_lti rfl rfl) <|
   sq_end) ?_
 clear hF hS; intro a w hF hS
 refine hK5 _ _ ?_
 clear hK5
 refine wp_seq_k ?_; intro K6 hK6
 refine wp_ifd hF rfl (fun hc1 => ?_) (fun hc1 => ?_)
 ·refine wp_skip ?_
  refine hK6 _ _ ?_
  clear hK6
  refine wp_seq_k ?_; intro K7 hK7
  refine wp_block ?_
  refine wp_seq_k ?_; intro K8 hK8
  refine regl ?_
  refine wpl_sq hF hS (sq rfl (q_idx_sl ty22 ty3 hb rfl rfl (by omega)) <|
    sq rfl (q_ld_I ty3 hb zin0 rfl rfl (by omega)) <|
    sq_end) ?_
  clear hF hS; intro a w hF hS
  refine wpl_ef hF hS rfl (ef_alloc1 ty3 (by rfl)) ?_
  clear hF hS; rintro _ _ _ a w ⟨b3, rfl, rfl, rfl⟩ hF hS
  refine wpl_ef hF hS rfl (ef_store1 ty3 0 rfl rfl rfl rfl (by simp)) ?_
  clear hF hS; rintro _ _ _ a w ⟨rfl, rfl, rfl⟩ hF hS
  (try simp only [List.set_cons_zero, List.set_cons_succ] at hS)
  replace hS : St _ [] [_, _, _] _ := hS
  refine wpList_nil ?_
  refine hK8 _ _ ?_
  clear hK8
  refine wp_seq_k ?_; intro K9 hK9
  refine regl ?_
  refine wpl_sq hF hS (sq rfl (q_move rfl) <|
    sq rfl (q_ld_blk1 ty3 0 rfl rfl rfl rfl) <|
    sq rfl (q_call fn70 rfl (fun w hS => cont_ct _ _ _ w (own_slV (hS.own _ (List.mem_of_getElem? (i := 1) rfl)).1 (by first | assumption | (simp; done)) (by first | rfl | (simp; done) | (simp; omega) | omega) (by first | omega | (simp; omega)))) (fun _ _ _ h => h)) <|
    sq rfl (q_not rfl) <|
    sq rfl (q_move rfl) <|
    sq_end) ?_
  clear hF hS; intro a w hF hS
  refine wpl_and 4 18 4 hF hS rfl rfl rfl rfl rfl (fun hg => have hg := (nd_true hg); sq_go 18 rfl rfl rfl (q_move rfl) <|
    sq_go 18 rfl rfl rfl (q_mkf rfl rfl) <|
    sq_go 18 rfl rfl rfl (q_call fn83 rfl (fun w hS => contf_ct _ _ _ (fun t => q t (l.getD k.toNat 0)) (fun t => !decide (t = l.getD k.toNat 0) && p t (l.getD k.toNat 0)) (fun x hx => hq _ _ hx (getD_mem (by omega))) w (Sl.mono (hS.le zin0) hb) ⟨84, [], [_, _], rfl, fn84, fun w' hle x0 hq => extreme1_ct _ _ _ _ _ _ _ hq w' (hle _ _ (own_box hS 0 rfl)) (hle _ _ (own_box hS 2 rfl)) (hf.mono (PH.le_tr hS.ext hle))⟩) (fun _ _ _ h => h)) <|
    sq_go 18 rfl rfl rfl (q_not rfl) <|
    sq_end) rfl rfl ?_
  clear hF hS; intro a w hF hS
  refine wpList_nil ?_
  refine hK9 _ _ ?_
  clear hK9
  refine wp_if hF rfl (fun hc2 => ?_) (fun hc2 => ?_)
  ·(try simp only [Bool.or_eq_true, Bool.and_eq_true, Bool.or_eq_false_iff, Bool.and_eq_false_iff, decide_eq_true_eq, decide_eq_false_iff_not, Bool.not_eq_true', Bool.not_eq_false'] at hc2)
   refine regl ?_
   refine wpl_sq hF hS (sq rfl (q_move rfl) <|
     sq rfl (q_ld_blk1 ty3 0 rfl rfl rfl rfl) <|
     sq_end) ?_
   clear hF hS; intro a w hF hS
   refine wpl_ef hF hS rfl (ef_bsliceA ty22 ty3 rfl rfl oQ (by decide) rfl rfl) ?_
   clear hF hS; rintro v4 _ _ a w ⟨rfl, rfl⟩ hF hS
   replace hS : St _ [] [_, _, _, _] _ := hS
   refine wpl_ef hF hS rfl (ef_append ty22 ty3 2 rfl rfl rfl (src_row ty22 (k := 0) rfl oQ) bQ rfl (by decide)) ?_
   clear hF hS; rintro v6 _ _ a w ⟨rfl, rfl⟩ hF hS
   replace hS : St _ [] [_, _, _, _] _ := hS
   refine wpl_sq hF hS (sq rfl (q_assign rfl) <|
     sq_end) ?_
   clear hF hS; intro a w hF hS
   refine wpList_nil ?_
   refine hK7 _ _ ?_
   clear hK7
   refine reg hF hS (sq rfl (q_addi rfl rfl (by omega)) <|
     sq rfl (q_move rfl) <|
     sq_end) ?_
   clear hF hS; intro a w hF hS
   replace hS := hS.keep zQ (sQ.n.n)
   refine ⟨(v6, k + 1), ?_, ?_, hF.sub ⟨rfl, rfl, rfl, rfl, rfl, rfl, trivial⟩, ?_⟩
   ·(try dsimp only); omega
   ·(try dsimp only); omega
   ·dsimp only; rw [show (k + 1).toNat = k.toNat + 1 by omega, Gu.extr_step p l k.toNat (by simpa only [Bool.or_eq_true, Bool.and_eq_true, Bool.or_eq_false_iff, Bool.and_eq_false_iff, decide_eq_true_eq, decide_eq_false_iff_not, Bool.not_eq_true', Bool.not_eq_false'] using hc2), List.map_append, List.length_append]; exact hS
  ·(try simp only [Bool.or_eq_true, Bool.and_eq_true, Bool.or_eq_false_iff, Bool.and_eq_false_iff, decide_eq_true_eq, decide_eq_false_iff_not, Bool.not_eq_true', Bool.not_eq_false'] at hc2)
   refine wp_skip ?_
   refine hK7 _ _ ?_
   clear hK7
   refine reg hF hS (sq rfl (q_addi rfl rfl (by omega)) <|
     sq rfl (q_move rfl) <|
     sq_end) ?_
   clear hF hS; intro a w hF hS
   replace hS := hS.keep zQ (sQ.n)
   refine ⟨(u, k + 1), ?_, ?_, hF.sub ⟨rfl, rfl, rfl, rfl, rfl, rfl, trivial⟩, ?_⟩
   ·(try dsimp only); omega
   ·(try dsimp only); omega
   ·dsimp only; rw [show (k + 1).toNat = k.toNat + 1 by omega, Gu.extr_stay p l k.toNat (by simpa only [Bool.or_eq_true, Bool.and_eq_true, Bool.or_eq_false_iff, Bool.and_eq_false_iff, decide_eq_true_eq, decide_eq_false_iff_not, Bool.not_eq_true', Bool.not_eq_false'] using hc2)]; exact hS
 ·obtain rfl : k = l.length := by omega
  rw [Int.toNat_natCast] at hS hel
  refine wp_exit ?_
  refine hK3 _ _ ?_
  clear hK3
  refine wp_seq_k ?_; intro K10 hK10
  refine reg hF hS (sq rfl (q_move rfl) <|
    sq rfl (q_assign rfl) <|
    sq_end) ?_
  clear hF hS; intro a w hF hS
  refine hK10 _ _ ?_
  clear hK10
  refine wp_ret ?_
  obtain ⟨zr, hzr, hS⟩ := St.freezeV (f := vi) (p := fun x => -9223372036854775808 ≤ x ∧ x ≤ 9223372036854775807) hS rfl (by first | omega | (simp; omega)) (fun x hx => sl_rng hb x (Gu.extr_mem p l _ (Nat.le_refl _) x hx))
  exact fn_ret (rs := [.tmp 4]) rfl hF hS (vs := [_]) ⟨rfl, trivial⟩ (zs' := [_]) (hs' := []) (List.singleton_sublist.2 (by simp)) zQ (sr_of ⟨_, hzr, rfl, rfl⟩ (rfl))

/-- What DeleteFunc leaves. -/
def DelR (v : Value) (e1 : Nat) (s : Int) (xs : List Int) (r : Value) (zs : List PH) (hs : List Res) : Prop :=
 ∃ (ys : List Int) (k : Nat), (r = slV v 1 0 k ∨ r = v ∧ k = xs.length) ∧ k ≤ xs.length ∧ ys.length = xs.length ∧ ys.take k = Hu.Ab.kept s xs ∧ (∀ y ∈ ys, -9223372036854775808 ≤ y ∧ y ≤ 9223372036854775807) ∧ zs = [] ∧ hs = [.row v 3 1 xs.length (ys.map vi), .blk e1 3 [vi s]]
theorem del_sl {z : PH} {v r : Value} {ys xs K : List Int} {k : Nat} (h : Sl encI z v ys) (hr : r = slV v 1 0 k ∨ r = v ∧ k = xs.length) (hk : k ≤ xs.length) (hl : ys.length = xs.length) (ht : ys.take k = K) : Sl encI z r K := by
 rcases hr with rfl | ⟨rfl, rfl⟩
 ·have := h.cut (lo := 0) (hi := k) (by omega)
  rw [List.drop_zero, ht] at this
  exact this
 ·rw [← hl, List.take_length] at ht
  rwa [ht] at h
theorem getD_set_rng {ys : List Int} {i j : Nat} (h : ∀ y ∈ ys, -9223372036854775808 ≤ y ∧ y ≤ 9223372036854775807) (hj : j < ys.length) : ∀ y ∈ ys.set i (ys.getD j 0), -9223372036854775808 ≤ y ∧ y ≤ 9223372036854775807 := fun y hy => by
 rcases List.mem_or_eq_of_mem_set hy with h1 | rfl
 ·exact h y h1
 ·exact h _ (getD_mem hj)

set_option maxRecDepth 4000 in
set_option maxHeartbeats 2000000 in
theorem above1_ct (y s : Int) (e1 : Nat) (w : World) (hb1 : w.heap[e1]? = some (.cells [vi s].toArray 3 (0, 0))) : Ct Try.prog 81 [vi y, .pointer (some ⟨e1, 0, none⟩)] w (fun r _ _ => r = .bool (Hu.Ab.del s y)) := by
 refine fn_enter Try.func81 rfl Try.ntmps81 (Nat.le_of_ble_eq_true rfl) fun a hF hS => ?_
 refine wp_seq_k ?_; intro K1 hK1
 refine reg hF hS (sq rfl (q_assign rfl) <|
   sq_end) ?_
 clear hF hS; intro a w hF hS
 refine hK1 _ _ ?_
 clear hK1
 refine wp_seq_k ?_; intro K2 hK2
 refine regl ?_
 refine wpl_sq hF hS (sq rfl (q_move rfl) <|
   sq rfl (q_ld_old1 ty3 rfl hb1 rfl rfl) <|
   sq rfl (q_eqi rfl rfl) <|
   sq rfl (q_move rfl) <|
   sq_end) ?_
 clear hF hS; intro a w hF hS
 refine wpl_or 3 7 4 hF hS rfl rfl rfl rfl rfl (fun hg => have hg := (by first | exact of_decide_eq_false hg | exact hg); sq_go 7 rfl rfl rfl (q_ld_old1 ty3 rfl hb1 rfl rfl) <|
   sq_go 7 rfl rfl rfl (q_move rfl) <|
   sq_go 7 rfl rfl rfl (q_call fn75 rfl (fun w hS => winl_ct _ _ w ) (fun _ _ _ h => h)) <|
   sq_go 7 rfl rfl rfl (q_not rfl) <|
   sq_end) rfl rfl ?_
 clear hF hS; intro a w hF hS
 refine wpl_sq hF hS (sq rfl (q_assign rfl) <|
   sq_end) ?_
 clear hF hS; intro a w hF hS
 refine wpList_nil ?_
 refine hK2 _ _ ?_
 clear hK2
 refine wp_ret ?_
 exact fn_ret (rs := [.tmp 3]) rfl hF hS (vs := [_]) ⟨rfl, trivial⟩ zQ zQ (rfl)

set_option maxRecDepth 4000 in
set_option maxHeartbeats 2000000 in
theorem delf_ct (v : Value) (xs : List Int) (s : Int) (e1 : Nat) (w0 : World) (zsr : List PH) (hr : ∀ x ∈ xs, -9223372036854775808 ≤ x ∧ x ≤ 9223372036854775807) (hl : xs.length < 1048576) : Cx Try.prog 80 [v, .func (.func 81) (List.nil : List Value).toArray [Value.pointer (some ⟨e1, 0, none⟩)].toArray] w0 zsr [.row v 3 1 xs.length (xs.map vi), .blk e1 3 [vi s]] (DelR v e1 s xs) := by
 refine fn_enterx Try.func80 rfl Try.ntmps80 (Nat.le_of_ble_eq_true rfl) fun hsr a w hF hS => ?_
 replace hS : St _ (_) (_ :: _ :: _) _ := hS
 have hir := Gu.ixF_range (Hu.Ab.del s) xs
 refine wp_seq_k ?_; intro K1 hK1
 refine reg hF hS (sq rfl (q_assign rfl) <|
   sq_end) ?_
 clear hF hS; intro a w hF hS
 refine hK1 _ _ ?_
 clear hK1
 refine wp_seq_k ?_; intro K2 hK2
 refine reg hF hS (sq rfl (q_move rfl) <|
   sq rfl (q_move rfl) <|
   sq rfl (q_call fn71 rfl (fun w hS => ixf_ct _ _ _ (fun _ => True) (Hu.Ab.del s) (fun _ _ => trivial) w (own_slV (hS.own _ (List.mem_of_getElem? (i := 0) rfl)).1 (by first | assumption | (simp; done)) (by first | rfl | (simp; done) | (simp; omega) | omega) (by first | omega | (simp; omega))) ⟨81, [], [_], rfl, fn81, fun w' hle x0 hq => above1_ct _ _ _ w' (hle _ _ (own_box hS 1 rfl))⟩) (fun _ _ _ h => h)) <|
   sq rfl (q_assign rfl) <|
   sq_end) ?_
 clear hF hS; intro a w hF hS
 refine hK2 _ _ ?_
 clear hK2
 refine wp_seq_k ?_; intro K3 hK3
 refine wp_seq_k ?_; intro K4 hK4
 refine reg hF hS (sq rfl (q_move rfl) <|
   sq rfl (q_eqi rfl rfl) <|
   sq_end) ?_
 clear hF hS; intro a w hF hS
 refine hK4 _ _ ?_
 clear hK4
 refine wp_ifd hF rfl (fun hc1 => ?_) (fun hc1 => ?_)
 ·refine wp_seq_k ?_; intro K5 hK5
  refine reg hF hS (sq rfl (q_move rfl) <|
    sq rfl (q_assign rfl) <|
    sq_end) ?_
  clear hF hS; intro a w hF hS
  refine hK5 _ _ ?_
  clear hK5
  refine wp_ret ?_
  exact fn_retx (rs := [.tmp 4]) rfl hF hS (vs := [_]) ⟨rfl, trivial⟩ [] [_, _] sQ sQ ⟨xs, xs.length, .inr ⟨rfl, rfl⟩, Nat.le_refl _, rfl, by rw [List.take_length]; exact (Hu.Ab.kept_all (Gu.ixF_none hc1)).symm, hr, rfl, rfl⟩
 ·obtain ⟨hs0, hs1, hs2, hs3⟩ := Gu.ixF_spec hc1
  have hst := Hu.Ab.Dst.start ⟨hs0, hs1⟩ hs2 hs3
  refine wp_skip ?_
  refine hK3 _ _ ?_
  clear hK3
  refine wp_seq_k ?_; intro K6 hK6
  refine wp_seq_k ?_; intro K7 hK7
  refine reg hF hS (sq rfl (q_move rfl) <|
    sq rfl (q_addi rfl rfl (by omega)) <|
    sq rfl (q_assign rfl) <|
    sq_end) ?_
  clear hF hS; intro a w hF hS
  refine hK7 _ _ ?_
  clear hK7
  refine wp_block ?_
  obtain ⟨hs0, hhs0, hS⟩ : ∃ h, h = _ ∧ St _ _ h _ := ⟨_, rfl, hS⟩
  refine wp_loopx (γ := List Int × Int × Int) (xs, Gu.ixF (Hu.Ab.del s) xs, Gu.ixF (Hu.Ab.del s) xs + 1) (fun (gg : List Int × Int × Int) => match gg with | (ys, i, j) => [(5, vi i), (6, vi j)]) [(0, _), (1, _)] (fun (gg : List Int × Int × Int) => match gg with | (ys, i, j) => (hs0.set 0 (.row v 3 1 xs.length (ys.map vi)))) (fun (gg : List Int × Int × Int) => match gg with | (ys, i, j) => Hu.Ab.Dst s xs ys i j ∧ ∀ y ∈ ys, -9223372036854775808 ≤ y ∧ y ≤ 9223372036854775807) (fun (gg : List Int × Int × Int) => match gg with | (ys, i, j) => (xs.length - j).toNat) (hF.sub ⟨rfl, rfl, rfl, rfl, trivial⟩) (by subst hhs0; exact hS) (by exact ⟨hst, hr⟩) ?_
  clear hF hS; rintro ⟨ys, i, j⟩ a w hfact hF hS
  subst hhs0; (try dsimp only at hfact); (try dsimp only at hF); (try dsimp only at hS)
  obtain ⟨hd, hrg⟩ := hfact
  replace hS : St _ (_) (_ :: _ :: _) _ := hS
  have hd0 := hd.i0
  have hdl := hd.len
  refine wp_seq_k ?_; intro K8 hK8
  refine wp_seq_k ?_; intro K9 hK9
  refine reg hF hS (sq rfl (q_move rfl) <|
    sq rfl (q_move rfl) <|
    sq rfl (q_len_row ty22 0 rfl rfl) <|
    sq rfl (q_lti rfl rfl) <|
    sq_end) ?_
  clear hF hS; intro a w hF hS
  refine hK9 _ _ ?_
  clear hK9
  refine wp_ifd hF rfl (fun hc2 => ?_) (fun hc2 => ?_)
  ·refine wp_skip ?_
   refine hK8 _ _ ?_
   clear hK8
   refine wp_seq_k ?_; intro K10 hK10
   refine wp_block ?_
   refine wp_seq_k ?_; intro K11 hK11
   refine reg hF hS (sq rfl (q_move rfl) <|
     sq rfl (q_move rfl) <|
     sq rfl (q_idx_row ty22 ty3 0 rfl rfl rfl (by omega)) <|
     sq rfl (q_ld_rowM ty3 0 (0 : Int) rfl rfl bQ rfl) <|
     sq rfl (q_assign rfl) <|
     sq_end) ?_
   clear hF hS; intro a w hF hS
   refine hK11 _ _ ?_
   clear hK11
   refine wp_seq_k ?_; intro K12 hK12
   refine reg hF hS (sq rfl (q_move rfl) <|
     sq rfl (q_move rfl) <|
     sq rfl (q_callv fn81 rfl rfl (by exact fun w hS => above1_ct _ _ _ w (own_box hS 1 rfl)) (fun _ _ _ h => h)) <|
     sq rfl (q_not rfl) <|
     sq_end) ?_
   clear hF hS; intro a w hF hS
   refine hK12 _ _ ?_
   clear hK12
   refine wp_if hF rfl (fun hc3 => ?_) (fun hc3 => ?_)
   ·refine wp_seq_k ?_; intro K13 hK13
    refine regl ?_
    refine wpl_sq hF hS (sq rfl (q_move rfl) <|
      sq rfl (q_move rfl) <|
      sq rfl (q_move rfl) <|
      sq rfl (q_idx_row ty22 ty3 0 rfl rfl rfl (by omega)) <|
      sq_end) ?_
    clear hF hS; intro a w hF hS
    refine wpl_ef hF hS rfl (ef_st_row ty3 0 rfl rfl rfl (by omega) rfl) ?_
    clear hF hS; rintro _ _ _ a w ⟨rfl, rfl, rfl⟩ hF hS
    replace hS : St _ (_) (_ :: _ :: _) _ := hS
    refine wpList_nil ?_
    refine hK13 _ _ ?_
    clear hK13
    refine reg hF hS (sq rfl (q_move rfl) <|
      sq rfl (q_addi rfl rfl (by omega)) <|
      sq rfl (q_assign rfl) <|
      sq_end) ?_
    clear hF hS; intro a w hF hS
    refine hK10 _ _ ?_
    clear hK10
    refine reg hF hS (sq rfl (q_move rfl) <|
      sq rfl (q_addi rfl rfl (by omega)) <|
      sq rfl (q_assign rfl) <|
      sq_end) ?_
    clear hF hS; intro a w hF hS
    refine ⟨(ys.set i.toNat (ys.getD j.toNat 0), i + 1, j + 1), ?_, ?_, hF.sub ⟨rfl, rfl, rfl, rfl, trivial⟩, ?_⟩
    ·(try dsimp only); omega
    ·exact ⟨hd.keep (by omega) (by simpa using hc3), getD_set_rng hrg (by omega)⟩
    ·dsimp only; rw [List.map_set]; exact hS
   ·refine wp_skip ?_
    refine hK10 _ _ ?_
    clear hK10
    refine reg hF hS (sq rfl (q_move rfl) <|
      sq rfl (q_addi rfl rfl (by omega)) <|
      sq rfl (q_assign rfl) <|
      sq_end) ?_
    clear hF hS; intro a w hF hS
    refine ⟨(ys, i, j + 1), ?_, ?_, hF.sub ⟨rfl, rfl, rfl, rfl, trivial⟩, ?_⟩
    ·(try dsimp only); omega
    ·exact ⟨hd.skip (by omega) (by simpa using hc3), hrg⟩
    ·exact hS
  ·refine wp_exit ?_
   refine hK6 _ _ ?_
   clear hK6
   refine wp_seq_k ?_; intro K14 hK14
   refine regl ?_
   refine wpl_sq hF hS (sq rfl (q_move rfl) <|
     sq rfl (q_move rfl) <|
     sq rfl (q_slrow_lo ty22 ty3 0 rfl rfl rfl (by omega)) <|
     sq_end) ?_
   clear hF hS; intro a w hF hS
   refine wpl_ef hF hS rfl (ef_clear_row ty22 ty3 0 rfl rfl (by omega) rfl) ?_
   clear hF hS; rintro _ _ _ a w ⟨rfl, rfl⟩ hF hS
   replace hS : St _ (_) (_ :: _ :: _) _ := hS
   refine wpList_nil ?_
   refine hK14 _ _ ?_
   clear hK14
   refine wp_seq_k ?_; intro K15 hK15
   refine reg hF hS (sq rfl (q_move rfl) <|
     sq rfl (q_move rfl) <|
     sq rfl (q_slrow_hi ty22 ty3 0 rfl rfl rfl (by omega)) <|
     sq rfl (q_assign rfl) <|
     sq_end) ?_
   clear hF hS; intro a w hF hS
   refine hK15 _ _ ?_
   clear hK15
   refine wp_ret ?_
   refine fn_retx (rs := [.tmp 4]) rfl hF hS (vs := [_]) ⟨rfl, trivial⟩ [] [_, _] sQ sQ ⟨ys.take i.toNat ++ List.replicate (xs.length - i.toNat) 0, i.toNat, .inl rfl, by omega, by simp; omega, by rw [List.take_append_of_le_length (by simp; omega), List.take_of_length_le (by simp; omega)]; exact hd.done (by omega), fun y hy => ?_, rfl, by simp⟩
   rcases List.mem_append.1 hy with hy | hy
   ·exact hrg y (List.mem_of_mem_take hy)
   ·rw [List.eq_of_mem_replicate hy]; omega

set_option maxRecDepth 4000 in
set_option maxHeartbeats 2000000 in
theorem labove_ct (xN xS xB : Value) (xs : List Int) (xb : List Bool) (s : Int) (hl : xs.length < 1048576) (w : World) (hxn : xN.oneCell' = true) (hxs : Sl encI (ph w) xS xs) (hxb : Sl encT (ph w) xB xb) : Ct Try.prog 76 [.agg [xN, xS, xB].toArray, vi s] w (SlR encI (Hu.Ab.blw xs s)) := by
 refine fn_enter Try.func76 rfl Try.ntmps76 (Nat.le_of_ble_eq_true rfl) fun a hF hS => ?_
 have hsl := hxs.1
 have hrx := sl_rng hxs
 have hkl := Hu.Ab.kept_len s xs
 refine wp_seq_k ?_; intro K1 hK1
 refine regl ?_
 refine wpl_ef hF hS rfl (ef_boxA rfl) ?_
 clear hF hS; rintro _ _ _ a w ⟨b1, rfl, rfl, rfl⟩ hF hS
 refine wpl_ef hF hS rfl (ef_box1 rfl rfl) ?_
 clear hF hS; rintro _ _ _ a w ⟨b2, rfl, rfl, rfl⟩ hF hS
 refine wpl_sq hF hS (sq rfl (q_assign rfl) <|
   sq_end) ?_
 clear hF hS; intro a w hF hS
 refine wpList_nil ?_
 refine hK1 _ _ ?_
 clear hK1
 refine wp_seq_k ?_; intro K2 hK2
 refine regl ?_
 refine wpl_sq hF hS (sq rfl (q_fieldAddr ty42 rfl rfl (s' := 0) kQ) <|
   sq rfl (q_ld_blk1 ty22 1 rfl rfl rfl rfl) <|
   sq_end) ?_
 clear hF hS; intro a w hF hS
 refine wpl_ef hF hS rfl (ef_call fn56 rfl (fun w hS => clone_ct _ _ (by first | with_reducible assumption | omega) w (Sl.mono (hS.le zin0) hxs))) ?_
 clear hF hS; rintro v3 _ _ a w ⟨_, _, rfl, rfl, rfl, rfl⟩ hF hS
 replace hS : St _ [] [_, _, _] _ := hS
 refine wpl_sq hF hS (sq rfl (q_mkf rfl rfl) <|
   sq_end) ?_
 clear hF hS; intro a w hF hS
 refine wpl_ef hF hS rfl (ef_callx fn80 rfl (List.Perm.refl _) (by exact (delf_ct _ _ s _ _ _ hrx (by omega) ))) ?_
 clear hF hS; rintro v5 _ _ a w ⟨_, _, rfl, rfl, ⟨ys6, k7, hrk8, hkl9, hyl10, htk11, hyr12, rfl, rfl⟩⟩ hF hS
 obtain ⟨z13, hz14, hS⟩ := St.freezeV (f := vi) (p := fun x => -9223372036854775808 ≤ x ∧ x ≤ 9223372036854775807) hS hyl10.symm (by omega) hyr12
 have hd15 := del_sl hz14 hrk8 hkl9 hyl10 htk11
 replace hS : St _ [_] [_, _] _ := hS
 refine wpl_sq hF hS (sq rfl (q_assign rfl) <|
   sq_end) ?_
 clear hF hS; intro a w hF hS
 refine wpList_nil ?_
 refine hK2 _ _ ?_
 clear hK2
 refine wp_seq_k ?_; intro K3 hK3
 refine regl ?_
 refine wpl_sq hF hS (sq rfl (q_move rfl) <|
   sq_end) ?_
 clear hF hS; intro a w hF hS
 refine wpl_ef hF hS rfl (ef_call fn82 rfl (fun w hS => extreme_ct _ _ _ (fun _ _ => True) (fun a b => Gu.wi a b) (fun _ _ _ _ => trivial) (by omega) w (Sl.mono (hS.le (.inr (by simp))) hd15) ⟨75, [], [], rfl, fn75, fun w' hle x0 x1 hq => winl_ct _ _ w'⟩)) ?_
 clear hF hS; rintro v16 _ _ a w ⟨_, _, rfl, rfl, ⟨z17, hz18, rfl, rfl⟩⟩ hF hS
 replace hS : St _ [_, _] [_, _] _ := hS
 refine wpl_sq hF hS (sq rfl (q_assign rfl) <|
   sq_end) ?_
 clear hF hS; intro a w hF hS
 refine wpList_nil ?_
 refine hK3 _ _ ?_
 clear hK3
 refine wp_ret ?_
 exact fn_ret (rs := [.tmp 4]) rfl hF hS (vs := [_]) ⟨rfl, trivial⟩ (zs' := [_]) (hs' := []) (List.singleton_sublist.2 (by simp)) zQ (sr_of ⟨_, hz18, rfl, rfl⟩ (rfl))

/-- A path of single steps. -/
def PthS (xs : List Int) (f t : Int) (r : Value) (zs : List PH) (hs : List Res) : Prop :=
 ∃ (v : Value) (p : List Int) (z : PH), r = .tuple [v, vi 0].toArray ∧ Sl encI z v p ∧ Hu.Pth xs f p t ∧ zs = [z] ∧ hs = []

set_option maxRecDepth 4000 in
set_option maxHeartbeats 2000000 in
theorem lpath_ct (xN xS xB : Value) (xs : List Int) (xb : List Bool) (f t : Int) (hl : xs.length < 1048576) (hfx : f ∈ xs) (htx : t ∈ xs) (hwf : Gu.wi f t = true) (hq : Hu.Stq xs) (w : World) (hxn : xN.oneCell' = true) (hxs : Sl encI (ph w) xS xs) (hxb : Sl encT (ph w) xB xb) : Ct Try.prog 46 [.agg [xN, xS, xB].toArray, vi f, vi t] w (PthS xs f t) := by
 refine fn_enter Try.func46 rfl Try.ntmps46 (Nat.le_of_ble_eq_true rfl) fun a hF hS => ?_
 have hsl := hxs.1
 have hrx : ∀ x ∈ xs, Gu.R64 x := fun x hx => sl_rng hxs x hx
 have hif := Gu.ixF_in hfx
 have hit := Gu.ixF_in htx
 refine wp_seq_k ?_; intro K1 hK1
 refine regl ?_
 refine wpl_ef hF hS rfl (ef_boxA rfl) ?_
 clear hF hS; rintro _ _ _ a w ⟨b1, rfl, rfl, rfl⟩ hF hS
 refine wpl_sq hF hS (sq rfl (q_assign rfl) <|
   sq rfl (q_assign rfl) <|
   sq_end) ?_
 clear hF hS; intro a w hF hS
 refine wpList_nil ?_
 refine hK1 _ _ ?_
 clear hK1
 refine wp_seq_k ?_; intro K2 hK2
 refine wp_seq_k ?_; intro K3 hK3
 refine reg hF hS (sq rfl (q_ld_blkW ty42 0 rfl rfl bQ rfl) <|
   sq rfl (q_move rfl) <|
   sq rfl (q_call fn74 rfl (fun w hS => lix_ct _ _ _ _ _ _ w hxn (Sl.mono (hS.le zin0) hxs) (Sl.mono (hS.le zin0) hxb)) (fun _ _ _ h => h)) <|
   sq rfl (q_df (q_lti rfl rfl) (by omega)) <|
   sq rfl (q_move rfl) <|
   sq_go 16 rfl rfl rfl (q_ld_blkW ty42 0 rfl rfl bQ rfl) <|
   sq_go 16 rfl rfl rfl (q_move rfl) <|
   sq_go 16 rfl rfl rfl (q_call fn74 rfl (fun w hS => lix_ct _ _ _ _ _ _ w hxn (Sl.mono (hS.le zin0) hxs) (Sl.mono (hS.le zin0) hxb)) (fun _ _ _ h => h)) <|
   sq_go 16 rfl rfl rfl (q_df (q_lti rfl rfl) (by omega)) <|
   sq rfl (q_pick_f rfl rfl) <|
   sq_end) ?_
 clear hF hS; intro a w hF hS
 refine hK3 _ _ ?_
 clear hK3
 refine wp_if hF rfl (fun h => absurd h (by simp)) (fun _ => ?_)
 refine wp_skip ?_
 refine hK2 _ _ ?_
 clear hK2
 refine wp_seq_k ?_; intro K4 hK4
 refine wp_seq_k ?_; intro K5 hK5
 refine reg hF hS (sq rfl (q_move rfl) <|
   sq rfl (q_move rfl) <|
   sq rfl (q_call fn75 rfl (fun w hS => winl_ct _ _ w ) (fun _ _ _ h => h)) <|
   sq rfl (q_bf (q_not rfl) (by rw [hwf]; rfl)) <|
   sq_end) ?_
 clear hF hS; intro a w hF hS
 refine hK5 _ _ ?_
 clear hK5
 refine wp_if hF rfl (fun h => absurd h (by simp)) (fun _ => ?_)
 refine wp_skip ?_
 refine hK4 _ _ ?_
 clear hK4
 refine wp_seq_k ?_; intro K6 hK6
 refine regl ?_
 refine wpl_sq hF hS (sq rfl (q_move rfl) <|
   sq_end) ?_
 clear hF hS; intro a w hF hS
 refine wpl_ef hF hS rfl (ef_bsliceA ty22 ty3 rfl rfl oQ (by decide) rfl rfl) ?_
 clear hF hS; rintro v2 _ _ a w ⟨rfl, rfl⟩ hF hS
 replace hS : St _ [] [_, _] _ := hS
 refine wpl_sq hF hS (sq rfl (q_assign rfl) <|
   sq_end) ?_
 clear hF hS; intro a w hF hS
 refine wpList_nil ?_
 refine hK6 _ _ ?_
 clear hK6
 refine wp_seq_k ?_; intro K7 hK7
 refine wp_seq_k ?_; intro K8 hK8
 refine reg hF hS (sq rfl (q_move rfl) <|
   sq rfl (q_assign rfl) <|
   sq_end) ?_
 clear hF hS; intro a w hF hS
 refine hK8 _ _ ?_
 clear hK8
 refine wp_block ?_
 obtain ⟨hs0, hhs0, hS⟩ : ∃ h, h = _ ∧ St _ _ h _ := ⟨_, rfl, hS⟩
 refine wp_loopx (γ := Value × Int × List Int) (v2, f, [f]) (fun (gg : Value × Int × List Int) => match gg with | (u, c, L) => [(8, u), (9, vi c)]) [(2, _), (3, _)] (fun (gg : Value × Int × List Int) => match gg with | (u, c, L) => (hs0.set 0 (.row u 3 1 L.length (L.map vi)))) (fun (gg : Value × Int × List Int) => match gg with | (u, c, L) => (c ∈ xs ∧ Gu.wi c t = true) ∧ Hu.Pth xs f L c) (fun (gg : Value × Int × List Int) => match gg with | (u, c, L) => Hu.mPa xs t c) (hF.sub ⟨rfl, rfl, rfl, rfl, trivial⟩) (by subst hhs0; exact hS) (by exact ⟨⟨hfx, hwf⟩, Hu.pth_start hfx⟩) ?_
 clear hF hS; rintro ⟨u, c, L⟩ a w hfact hF hS
 subst hhs0; (try dsimp only at hfact); (try dsimp only at hF); (try dsimp only at hS)
 obtain ⟨⟨ha1, ha2⟩, hPt⟩ := hfact
 replace hS : St _ [] [_, _] _ := hS
 refine wp_seq_k ?_; intro K9 hK9
 refine wp_seq_k ?_; intro K10 hK10
 refine reg hF hS (sq rfl (q_move rfl) <|
   sq rfl (q_move rfl) <|
   sq rfl (q_nei rfl rfl) <|
   sq_end) ?_
 clear hF hS; intro a w hF hS
 refine hK10 _ _ ?_
 clear hK10
 refine wp_ifn hF rfl (fun hc3 => ?_) (fun hc3 => ?_)
 ·obtain ⟨y9, hy9, hyt⟩ := Hu.pa_next hrx ha1 htx ha2 hc3
  refine wp_skip ?_
  refine hK9 _ _ ?_
  clear hK9
  refine wp_block ?_
  refine wp_seq_k ?_; intro K11 hK11
  refine wp_seq_k ?_; intro K12 hK12
  refine regl ?_
  refine wpl_sq hF hS (sq rfl (q_ld_blkW ty42 1 rfl rfl bQ rfl) <|
    sq rfl (q_move rfl) <|
    sq_end) ?_
  clear hF hS; intro a w hF hS
  refine wpl_ef hF hS rfl (ef_call fn76 rfl (fun w hS => labove_ct _ _ _ _ _ _ (by first | with_reducible assumption | omega) w hxn (Sl.mono (hS.le zin0) hxs) (Sl.mono (hS.le zin0) hxb))) ?_
  clear hF hS; rintro v4 _ _ a w ⟨_, _, rfl, rfl, ⟨zA, hzA, rfl, rfl⟩⟩ hF hS
  replace hS : St _ [_] [_, _] _ := hS
  refine wpl_sq hF hS (sq rfl (q_len_sl ty22 hzA rfl) <|
    sq rfl (q_move rfl) <|
    sq_end) ?_
  clear hF hS; intro a w hF hS
  refine wpList_nil ?_
  obtain ⟨la, hla⟩ : ∃ l, l = Hu.Ab.blw xs c := ⟨_, rfl⟩
  rw [← hla] at hzA hy9 hF
  have hal9 := hzA.1
  have hPl := Hu.pth_le hPt
  refine hK12 _ _ ?_
  clear hK12
  refine wp_block ?_
  obtain ⟨hs0, hhs0, hS⟩ : ∃ h, h = _ ∧ St _ _ h _ := ⟨_, rfl, hS⟩
  refine wp_loopx (γ := Int) (0) (fun (k : Int) => [(36, vi k), (9, vi c)]) [(2, _), (3, _), (8, _), (34, _), (35, _)] (fun (k : Int) => hs0) (fun (k : Int) => 0 ≤ k ∧ k ≤ la.length ∧ ∀ j, j < k.toNat → Gu.wi (la.getD j 0) t = false) (fun (k : Int) => (la.length - k).toNat) (hF.sub ⟨rfl, rfl, rfl, rfl, rfl, rfl, rfl, trivial⟩) (by subst hhs0; exact hS) (by exact ⟨Int.le_refl _, by omega, fun j hj => absurd hj (by simp)⟩) ?_
  clear hF hS; rintro k a w hfact hF hS
  subst hhs0; (try dsimp only at hfact); (try dsimp only at hF); (try dsimp only at hS)
  obtain ⟨hk0, hk1, hnk⟩ := hfact
  replace hS : St _ [_] [_, _] _ := hS
  refine wp_seq_k ?_; intro K13 hK13
  refine reg hF hS (sq rfl (q_lti rfl rfl) <|
    sq_end) ?_
  clear hF hS; intro a w hF hS
  refine hK13 _ _ ?_
  clear hK13
  refine wp_seq_k ?_; intro K14 hK14
  refine wp_ifd hF rfl (fun hc4 => ?_) (fun hc4 => ?_)
  ·refine wp_skip ?_
   refine hK14 _ _ ?_
   clear hK14
   refine wp_seq_k ?_; intro K15 hK15
   refine wp_block ?_
   refine wp_seq_k ?_; intro K16 hK16
   refine reg hF hS (sq rfl (q_idx_sl ty22 ty3 hzA rfl rfl (by omega)) <|
     sq rfl (q_ld_I ty3 hzA (.inr (by simp)) rfl rfl (by omega)) <|
     sq rfl (q_assign rfl) <|
     sq_end) ?_
   clear hF hS; intro a w hF hS
   refine hK16 _ _ ?_
   clear hK16
   refine wp_seq_k ?_; intro K17 hK17
   refine reg hF hS (sq rfl (q_move rfl) <|
     sq rfl (q_move rfl) <|
     sq rfl (q_call fn75 rfl (fun w hS => winl_ct _ _ w ) (fun _ _ _ h => h)) <|
     sq_end) ?_
   clear hF hS; intro a w hF hS
   refine hK17 _ _ ?_
   clear hK17
   refine wp_if hF rfl (fun hc5 => ?_) (fun hc5 => ?_)
   ·have hkm : la.getD k.toNat 0 ∈ Hu.Ab.blw xs c := by rw [← hla]; exact getD_mem (by omega)
    have hkx := (Hu.ab_iff.1 hkm).1.1
    have hlt9 := Hu.mPa_lt hrx (hrx c ha1) hkm hc5
    have hPt2 := Hu.pth_step hrx hq hPt hkm
    refine wp_seq_k ?_; intro K18 hK18
    refine reg hF hS (sq rfl (q_move rfl) <|
      sq rfl (q_assign rfl) <|
      sq_end) ?_
    clear hF hS; intro a w hF hS
    refine hK18 _ _ ?_
    clear hK18
    refine wp_exit ?_
    refine hK11 _ _ ?_
    clear hK11
    refine regl ?_
    refine wpl_sq hF hS (sq rfl (q_move rfl) <|
      sq rfl (q_move rfl) <|
      sq_end) ?_
    clear hF hS; intro a w hF hS
    refine wpl_ef hF hS rfl (ef_bsliceA ty22 ty3 rfl rfl oQ (by decide) rfl rfl) ?_
    clear hF hS; rintro v5 _ _ a w ⟨rfl, rfl⟩ hF hS
    replace hS : St _ [_] [_, _, _] _ := hS
    refine wpl_ef hF hS rfl (ef_append ty22 ty3 1 rfl rfl rfl (src_row ty22 (k := 0) rfl oQ) bQ rfl (by decide)) ?_
    clear hF hS; rintro v7 _ _ a w ⟨rfl, rfl⟩ hF hS
    replace hS : St _ [_] [_, _, _] _ := hS
    refine wpl_sq hF hS (sq rfl (q_assign rfl) <|
      sq_end) ?_
    clear hF hS; intro a w hF hS
    refine wpList_nil ?_
    replace hS := hS.keep zQ (sQ.n)
    refine ⟨(v7, (la.getD k.toNat 0), L ++ [la.getD k.toNat 0]), ?_, ?_, hF.sub ⟨rfl, rfl, rfl, rfl, trivial⟩, ?_⟩
    ·(try dsimp only); omega
    ·exact ⟨⟨hkx, hc5⟩, hPt2⟩
    ·dsimp only; rw [List.length_append, List.map_append]; exact hS
   ·refine wp_skip ?_
    refine hK15 _ _ ?_
    clear hK15
    refine reg hF hS (sq rfl (q_addi rfl rfl (by omega)) <|
      sq rfl (q_move rfl) <|
      sq_end) ?_
    clear hF hS; intro a w hF hS
    refine ⟨(k + 1), ?_, ?_, hF.sub ⟨rfl, rfl, rfl, rfl, rfl, rfl, rfl, trivial⟩, ?_⟩
    ·(try dsimp only); omega
    ·refine ⟨by omega, by omega, fun j hj => ?_⟩
     rcases Nat.lt_or_ge j k.toNat with h | h
     ·exact hnk j h
     ·rw [show j = k.toNat by omega]; exact hc5
    ·exact hS
  ·exact absurd (Hu.ab_miss hc4 hk0 hnk ⟨y9, hy9, hyt⟩) id
 ·subst hc3
  refine wp_exit ?_
  refine hK7 _ _ ?_
  clear hK7
  refine wp_seq_k ?_; intro K19 hK19
  refine reg hF hS (sq rfl (q_move rfl) <|
    sq rfl (q_assign rfl) <|
    sq rfl (q_assign rfl) <|
    sq_end) ?_
  clear hF hS; intro a w hF hS
  refine hK19 _ _ ?_
  clear hK19
  refine wp_ret ?_
  obtain ⟨zm, hzm, hS⟩ := St.freezeV (h0 := fun _ => rfl) (f := vi) (p := fun x => -9223372036854775808 ≤ x ∧ x ≤ 9223372036854775807) (xs := L) hS rfl (by have := Hu.pth_le hPt; omega) (fun x hx => sl_rng hxs x (Hu.pth_mem hPt x hx))
  replace hS : St _ [_] [_] _ := hS
  exact fn_ret (rs := [.tmp 6, .tmp 7]) rfl hF hS (vs := [_, _]) ⟨rfl, rfl, trivial⟩ (zs' := [zm]) (hs' := []) (List.singleton_sublist.2 (by simp)) zQ ⟨_, L, zm, rfl, hzm, hPt, rfl, rfl⟩
end Go.Proofs.Ytefjpigmgmbghaa
