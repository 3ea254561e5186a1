/- A text of a proof over this seat: walks over the program's functions and the plain laws that they need. -/
import Derived.Test.YtcbjemjohacbpaaGg7
import Derived.Test.YtcbjemjohacbpaaGuA
import Derived.Test.YtcbjemjohacbpaaFwB
set_option linter.all false
namespace Go.Proofs.Ytcbjemjohacbpaa
open Go.Fw
theorem fn79 : FnOk Try.prog 79 := ⟨_, Try.func79, rfl, by kernel_rfl⟩
theorem fn80 : FnOk Try.prog 80 := ⟨_, Try.func80, rfl, by kernel_rfl⟩
theorem fn81 : FnOk Try.prog 81 := ⟨_, Try.func81, rfl, by kernel_rfl⟩
theorem fn82 : FnOk Try.prog 82 := ⟨_, Try.func82, rfl, by kernel_rfl⟩

/-- What DeleteFunc leaves. -/
def DelR (v : Value) (e1 : Nat) (s : Int) (xs : List Int) (r : Value) (zs : List PH) (hs : List Res) : Prop :=
 ∃ (ys : List Int) (k : Nat), (r = slV v 1 0 k ∨ r = v ∧ k = xs.length) ∧ k ≤ xs.length ∧ ys.length = xs.length ∧ ys.take k = Gu.kept s xs ∧ (∀ y ∈ ys, -9223372036854775808 ≤ y ∧ y ≤ 9223372036854775807) ∧ zs = [] ∧ hs = [.row v 3 1 xs.length (ys.map vi), .blk e1 3 [vi s]]
theorem del_sl {z : PH} {v r : Value} {ys xs K : List Int} {k : Nat} (h : Sl encI z v ys) (hr : r = slV v 1 0 k ∨ r = v ∧ k = xs.length) (hk : k ≤ xs.length) (hl : ys.length = xs.length) (ht : ys.take k = K) : Sl encI z r K := by
 rcases hr with rfl | ⟨rfl, rfl⟩
 ·have := h.cut (lo := 0) (hi := k) (by omega)
  rw [List.drop_zero, ht] at this
  exact this
 ·rw [← hl, List.take_length] at ht
  rwa [ht] at h
theorem getD_set_rng {ys : List Int} {i j : Nat} (h : ∀ y ∈ ys, -9223372036854775808 ≤ y ∧ y ≤ 9223372036854775807) (hj : j < ys.length) : ∀ y ∈ ys.set i (ys.getD j 0), -9223372036854775808 ≤ y ∧ y ≤ 9223372036854775807 := fun y hy => by
 rcases List.mem_or_eq_of_mem_set hy with h1 | rfl
 ·exact h y h1
 ·exact h _ (getD_mem hj)

set_option maxRecDepth 4000 in
set_option maxHeartbeats 2000000 in
theorem clone_ct (u : Value) (xs : List Int) (hl : xs.length < 1048576) (w : World) (hb : Sl encI (ph w) u xs) : Ct Try.prog 80 [u] w (fun v zs hs => zs = [] ∧ hs = [.row v 3 1 xs.length (xs.map vi)]) := by
 refine fn_enter Try.func80 rfl Try.ntmps80 (Nat.le_of_ble_eq_true rfl) fun a hF hS => ?_
 have hbl := hb.1
 refine wp_seq_k ?_; intro K1 hK1
 refine reg hF hS (sq rfl (q_assign rfl) <|
   sq_end) ?_
 clear hF hS; intro a w hF hS
 refine hK1 _ _ ?_
 clear hK1
 refine wp_seq_k ?_; intro K2 hK2
 refine wp_seq_k ?_; intro K3 hK3
 refine reg hF hS (sq rfl (q_move rfl) <|
   sq rfl (q_eqnil ty22 hb rfl rfl) <|
   sq_end) ?_
 clear hF hS; intro a w hF hS
 refine hK3 _ _ ?_
 clear hK3
 refine wp_if hF rfl (fun hc1 => ?_) (fun hc1 => ?_)
 ·obtain rfl := nilS_nil hb hc1
  refine wp_seq_k ?_; intro K4 hK4
  refine reg hF hS (sq rfl (q_assign rfl) <|
    sq_end) ?_
  clear hF hS; intro a w hF hS
  replace hS := hS.nilRow 3 1
  refine hK4 _ _ ?_
  clear hK4
  refine wp_ret ?_
  exact fn_ret (rs := [.tmp 2]) rfl hF hS (vs := [_]) ⟨rfl, trivial⟩ zQ sQ ⟨rfl, rfl⟩
 ·refine wp_skip ?_
  refine hK2 _ _ ?_
  clear hK2
  refine wp_seq_k ?_; intro K5 hK5
  refine regl ?_
  refine wpl_ef hF hS rfl (ef_bslice0 ty22 ty3) ?_
  clear hF hS; rintro v1 _ _ a w ⟨rfl, rfl⟩ hF hS
  replace hS : St _ [] [_] _ := hS
  refine wpl_sq hF hS (sq rfl (q_move rfl) <|
    sq_end) ?_
  clear hF hS; intro a w hF hS
  refine wpl_ef hF hS rfl (ef_append ty22 ty3 0 rfl rfl rfl (src_slV ty22 hb zin0) bQ rfl (by decide)) ?_
  clear hF hS; rintro v3 _ _ a w ⟨rfl, rfl⟩ hF hS
  replace hS : St _ [] [_] _ := hS
  refine wpl_sq hF hS (sq rfl (q_assign rfl) <|
    sq_end) ?_
  clear hF hS; intro a w hF hS
  refine wpList_nil ?_
  refine hK5 _ _ ?_
  clear hK5
  refine wp_ret ?_
  exact fn_ret (rs := [.tmp 2]) rfl hF hS (vs := [_]) ⟨rfl, trivial⟩ zQ sQ ⟨rfl, by simp⟩

set_option maxRecDepth 4000 in
set_option maxHeartbeats 2000000 in
theorem below1_ct (y s : Int) (e1 : Nat) (w : World) (hb1 : w.heap[e1]? = some (.cells [vi s].toArray 3 (0, 0))) : Ct Try.prog 81 [vi y, .pointer (some ⟨e1, 0, none⟩)] w (fun r _ _ => r = .bool (Gu.del s y)) := by
 refine fn_enter Try.func81 rfl Try.ntmps81 (Nat.le_of_ble_eq_true rfl) fun a hF hS => ?_
 refine wp_seq_k ?_; intro K1 hK1
 refine reg hF hS (sq rfl (q_assign rfl) <|
   sq_end) ?_
 clear hF hS; intro a w hF hS
 refine hK1 _ _ ?_
 clear hK1
 refine wp_seq_k ?_; intro K2 hK2
 refine regl ?_
 refine wpl_sq hF hS (sq rfl (q_move rfl) <|
   sq rfl (q_ld_old1 ty3 rfl hb1 rfl rfl) <|
   sq rfl (q_eqi rfl rfl) <|
   sq rfl (q_move rfl) <|
   sq_end) ?_
 clear hF hS; intro a w hF hS
 refine wpl_or 3 7 4 hF hS rfl rfl rfl rfl rfl (fun hg => have hg := (by first | exact of_decide_eq_false hg | exact hg); sq_go 7 rfl rfl rfl (q_move rfl) <|
   sq_go 7 rfl rfl rfl (q_ld_old1 ty3 rfl hb1 rfl rfl) <|
   sq_go 7 rfl rfl rfl (q_call fn76 rfl (fun w hS => winl_ct _ _ w ) (fun _ _ _ h => h)) <|
   sq_go 7 rfl rfl rfl (q_not rfl) <|
   sq_end) rfl rfl ?_
 clear hF hS; intro a w hF hS
 refine wpl_sq hF hS (sq rfl (q_assign rfl) <|
   sq_end) ?_
 clear hF hS; intro a w hF hS
 refine wpList_nil ?_
 refine hK2 _ _ ?_
 clear hK2
 refine wp_ret ?_
 exact fn_ret (rs := [.tmp 3]) rfl hF hS (vs := [_]) ⟨rfl, trivial⟩ zQ zQ (rfl)

set_option maxRecDepth 4000 in
set_option maxHeartbeats 2000000 in
theorem below2_ct (a b : Int) (w : World) : Ct Try.prog 82 [vi a, vi b] w (fun r _ _ => r = .bool (Gu.wi b a)) := by
 refine fn_enter Try.func82 rfl Try.ntmps82 (Nat.le_of_ble_eq_true rfl) fun a hF hS => ?_
 refine wp_seq_k ?_; intro K1 hK1
 refine reg hF hS (sq rfl (q_assign rfl) <|
   sq_end) ?_
 clear hF hS; intro a w hF hS
 refine hK1 _ _ ?_
 clear hK1
 refine wp_seq_k ?_; intro K2 hK2
 refine reg hF hS (sq rfl (q_move rfl) <|
   sq rfl (q_move rfl) <|
   sq rfl (q_call fn76 rfl (fun w hS => winl_ct _ _ w ) (fun _ _ _ h => h)) <|
   sq rfl (q_assign rfl) <|
   sq_end) ?_
 clear hF hS; intro a w hF hS
 refine hK2 _ _ ?_
 clear hK2
 refine wp_ret ?_
 exact fn_ret (rs := [.tmp 4]) rfl hF hS (vs := [_]) ⟨rfl, trivial⟩ zQ zQ (rfl)

set_option maxRecDepth 4000 in
set_option maxHeartbeats 2000000 in
theorem delf_ct (v : Value) (xs : List Int) (s : Int) (e1 : Nat) (w0 : World) (zsr : List PH) (hr : ∀ x ∈ xs, -9223372036854775808 ≤ x ∧ x ≤ 9223372036854775807) (hl : xs.length < 1048576) : Cx Try.prog 79 [v, .func (.func 81) (List.nil : List Value).toArray [Value.pointer (some ⟨e1, 0, none⟩)].toArray] w0 zsr [.row v 3 1 xs.length (xs.map vi), .blk e1 3 [vi s]] (DelR v e1 s xs) := by
 refine fn_enterx Try.func79 rfl Try.ntmps79 (Nat.le_of_ble_eq_true rfl) fun hsr a w hF hS => ?_
 replace hS : St _ (_) (_ :: _ :: _) _ := hS
 have hir := Gu.ixF_range (Gu.del s) xs
 refine wp_seq_k ?_; intro K1 hK1
 refine reg hF hS (sq rfl (q_assign rfl) <|
   sq_end) ?_
 clear hF hS; intro a w hF hS
 refine hK1 _ _ ?_
 clear hK1
 refine wp_seq_k ?_; intro K2 hK2
 refine reg hF hS (sq rfl (q_move rfl) <|
   sq rfl (q_move rfl) <|
   sq rfl (q_call fn78 rfl (fun w hS => ixf_ct _ _ _ (fun _ => True) (Gu.del s) (fun _ _ => trivial) w (own_slV (hS.own _ (List.mem_of_getElem? (i := 0) rfl)).1 (by first | assumption | (simp; done)) (by first | rfl | (simp; done) | (simp; omega) | omega) (by first | omega | (simp; omega))) ⟨81, [], [_], rfl, fn81, fun w' hle x0 hq => below1_ct _ _ _ w' (hle _ _ (own_box hS 1 rfl))⟩) (fun _ _ _ h => h)) <|
   sq rfl (q_assign rfl) <|
   sq_end) ?_
 clear hF hS; intro a w hF hS
 refine hK2 _ _ ?_
 clear hK2
 refine wp_seq_k ?_; intro K3 hK3
 refine wp_seq_k ?_; intro K4 hK4
 refine reg hF hS (sq rfl (q_move rfl) <|
   sq rfl (q_eqi rfl rfl) <|
   sq_end) ?_
 clear hF hS; intro a w hF hS
 refine hK4 _ _ ?_
 clear hK4
 refine wp_ifd hF rfl (fun hc1 => ?_) (fun hc1 => ?_)
 ·refine wp_seq_k ?_; intro K5 hK5
  refine reg hF hS (sq rfl (q_move rfl) <|
    sq rfl (q_assign rfl) <|
    sq_end) ?_
  clear hF hS; intro a w hF hS
  refine hK5 _ _ ?_
  clear hK5
  refine wp_ret ?_
  exact fn_retx (rs := [.tmp 4]) rfl hF hS (vs := [_]) ⟨rfl, trivial⟩ [] [_, _] sQ sQ ⟨xs, xs.length, .inr ⟨rfl, rfl⟩, Nat.le_refl _, rfl, by rw [List.take_length]; exact (Gu.kept_all (Gu.ixF_none hc1)).symm, hr, rfl, rfl⟩
 ·obtain ⟨hs0, hs1, hs2, hs3⟩ := Gu.ixF_spec hc1
  have hst := Gu.Dst.start ⟨hs0, hs1⟩ hs2 hs3
  refine wp_skip ?_
  refine hK3 _ _ ?_
  clear hK3
  refine wp_seq_k ?_; intro K6 hK6
  refine wp_seq_k ?_; intro K7 hK7
  refine reg hF hS (sq rfl (q_move rfl) <|
    sq rfl (q_addi rfl rfl (by omega)) <|
    sq rfl (q_assign rfl) <|
    sq_end) ?_
  clear hF hS; intro a w hF hS
  refine hK7 _ _ ?_
  clear hK7
  refine wp_block ?_
  obtain ⟨hs0, hhs0, hS⟩ : ∃ h, h = _ ∧ St _ _ h _ := ⟨_, rfl, hS⟩
  refine wp_loopx (γ := List Int × Int × Int) (xs, Gu.ixF (Gu.del s) xs, Gu.ixF (Gu.del s) xs + 1) (fun (gg : List Int × Int × Int) => match gg with | (ys, i, j) => [(5, vi i), (6, vi j)]) [(0, _), (1, _)] (fun (gg : List Int × Int × Int) => match gg with | (ys, i, j) => (hs0.set 0 (.row v 3 1 xs.length (ys.map vi)))) (fun (gg : List Int × Int × Int) => match gg with | (ys, i, j) => Gu.Dst s xs ys i j ∧ ∀ y ∈ ys, -9223372036854775808 ≤ y ∧ y ≤ 9223372036854775807) (fun (gg : List Int × Int × Int) => match gg with | (ys, i, j) => (xs.length - j).toNat) (hF.sub ⟨rfl, rfl, rfl, rfl, trivial⟩) (by subst hhs0; exact hS) (by exact ⟨hst, hr⟩) ?_
  clear hF hS; rintro ⟨ys, i, j⟩ a w hfact hF hS
  subst hhs0; (try dsimp only at hfact); (try dsimp only at hF); (try dsimp only at hS)
  obtain ⟨hd, hrg⟩ := hfact
  replace hS : St _ (_) (_ :: _ :: _) _ := hS
  have hd0 := hd.i0
  have hdl := hd.len
  refine wp_seq_k ?_; intro K8 hK8
  refine wp_seq_k ?_; intro K9 hK9
  refine reg hF hS (sq rfl (q_move rfl) <|
    sq rfl (q_move rfl) <|
    sq rfl (q_len_row ty22 0 rfl rfl) <|
    sq rfl (q_lti rfl rfl) <|
    sq_end) ?_
  clear hF hS; intro a w hF hS
  refine hK9 _ _ ?_
  clear hK9
  refine wp_ifd hF rfl (fun hc2 => ?_) (fun hc2 => ?_)
  ·refine wp_skip ?_
   refine hK8 _ _ ?_
   clear hK8
   refine wp_seq_k ?_; intro K10 hK10
   refine wp_block ?_
   refine wp_seq_k ?_; intro K11 hK11
   refine reg hF hS (sq rfl (q_move rfl) <|
     sq rfl (q_move rfl) <|
     sq rfl (q_idx_row ty22 ty3 0 rfl rfl rfl (by omega)) <|
     sq rfl (q_ld_rowM ty3 0 (0 : Int) rfl rfl bQ rfl) <|
     sq rfl (q_assign rfl) <|
     sq_end) ?_
   clear hF hS; intro a w hF hS
   refine hK11 _ _ ?_
   clear hK11
   refine wp_seq_k ?_; intro K12 hK12
   refine reg hF hS (sq rfl (q_move rfl) <|
     sq rfl (q_move rfl) <|
     sq rfl (q_callv fn81 rfl rfl (by exact fun w hS => below1_ct _ _ _ w (own_box hS 1 rfl)) (fun _ _ _ h => h)) <|
     sq rfl (q_not rfl) <|
     sq_end) ?_
   clear hF hS; intro a w hF hS
   refine hK12 _ _ ?_
   clear hK12
   refine wp_if hF rfl (fun hc3 => ?_) (fun hc3 => ?_)
   ·refine wp_seq_k ?_; intro K13 hK13
    refine regl ?_
    refine wpl_sq hF hS (sq rfl (q_move rfl) <|
      sq rfl (q_move rfl) <|
      sq rfl (q_move rfl) <|
      sq rfl (q_idx_row ty22 ty3 0 rfl rfl rfl (by omega)) <|
      sq_end) ?_
    clear hF hS; intro a w hF hS
    refine wpl_ef hF hS rfl (ef_st_row ty3 0 rfl rfl rfl (by omega) rfl) ?_
    clear hF hS; rintro _ _ _ a w ⟨rfl, rfl, rfl⟩ hF hS
    replace hS : St _ (_) (_ :: _ :: _) _ := hS
    refine wpList_nil ?_
    refine hK13 _ _ ?_
    clear hK13
    refine reg hF hS (sq rfl (q_move rfl) <|
      sq rfl (q_addi rfl rfl (by omega)) <|
      sq rfl (q_assign rfl) <|
      sq_end) ?_
    clear hF hS; intro a w hF hS
    refine hK10 _ _ ?_
    clear hK10
    refine reg hF hS (sq rfl (q_move rfl) <|
      sq rfl (q_addi rfl rfl (by omega)) <|
      sq rfl (q_assign rfl) <|
      sq_end) ?_
    clear hF hS; intro a w hF hS
    refine ⟨(ys.set i.toNat (ys.getD j.toNat 0), i + 1, j + 1), ?_, ?_, hF.sub ⟨rfl, rfl, rfl, rfl, trivial⟩, ?_⟩
    ·(try dsimp only); omega
    ·exact ⟨hd.keep (by omega) (by simpa using hc3), getD_set_rng hrg (by omega)⟩
    ·dsimp only; rw [List.map_set]; exact hS
   ·refine wp_skip ?_
    refine hK10 _ _ ?_
    clear hK10
    refine reg hF hS (sq rfl (q_move rfl) <|
      sq rfl (q_addi rfl rfl (by omega)) <|
      sq rfl (q_assign rfl) <|
      sq_end) ?_
    clear hF hS; intro a w hF hS
    refine ⟨(ys, i, j + 1), ?_, ?_, hF.sub ⟨rfl, rfl, rfl, rfl, trivial⟩, ?_⟩
    ·(try dsimp only); omega
    ·exact ⟨hd.skip (by omega) (by simpa using hc3), hrg⟩
    ·exact hS
  ·refine wp_exit ?_
   refine hK6 _ _ ?_
   clear hK6
   refine wp_seq_k ?_; intro K14 hK14
   refine regl ?_
   refine wpl_sq hF hS (sq rfl (q_move rfl) <|
     sq rfl (q_move rfl) <|
     sq rfl (q_slrow_lo ty22 ty3 0 rfl rfl rfl (by omega)) <|
     sq_end) ?_
   clear hF hS; intro a w hF hS
   refine wpl_ef hF hS rfl (ef_clear_row ty22 ty3 0 rfl rfl (by omega) rfl) ?_
   clear hF hS; rintro _ _ _ a w ⟨rfl, rfl⟩ hF hS
   replace hS : St _ (_) (_ :: _ :: _) _ := hS
   refine wpList_nil ?_
   refine hK14 _ _ ?_
   clear hK14
   refine wp_seq_k ?_; intro K15 hK15
   refine reg hF hS (sq rfl (q_move rfl) <|
     sq rfl (q_move rfl) <|
     sq rfl (q_slrow_hi ty22 ty3 0 rfl rfl rfl (by omega)) <|
     sq rfl (q_assign rfl) <|
     sq_end) ?_
   clear hF hS; intro a w hF hS
   refine hK15 _ _ ?_
   clear hK15
   refine wp_ret ?_
   refine fn_retx (rs := [.tmp 4]) rfl hF hS (vs := [_]) ⟨rfl, trivial⟩ [] [_, _] sQ sQ ⟨ys.take i.toNat ++ List.replicate (xs.length - i.toNat) 0, i.toNat, .inl rfl, by omega, by simp; omega, by rw [List.take_append_of_le_length (by simp; omega), List.take_of_length_le (by simp; omega)]; exact hd.done (by omega), fun y hy => ?_, rfl, by simp⟩
   rcases List.mem_append.1 hy with hy | hy
   ·exact hrg y (List.mem_of_mem_take hy)
   ·rw [List.eq_of_mem_replicate hy]; omega

set_option maxRecDepth 4000 in
set_option maxHeartbeats 2000000 in
theorem lbelow_ct (xN xS xB : Value) (xs : List Int) (xb : List Bool) (s : Int) (hl : xs.length < 1048576) (w : World) (hxn : xN.oneCell' = true) (hxs : Sl encI (ph w) xS xs) (hxb : Sl encT (ph w) xB xb) : Ct Try.prog 62 [.agg [xN, xS, xB].toArray, vi s] w (SlR encI (Gu.blw xs s)) := by
 refine fn_enter Try.func62 rfl Try.ntmps62 (Nat.le_of_ble_eq_true rfl) fun a hF hS => ?_
 have hsl := hxs.1
 have hrx := sl_rng hxs
 have hkl := Gu.kept_len s xs
 refine wp_seq_k ?_; intro K1 hK1
 refine regl ?_
 refine wpl_ef hF hS rfl (ef_boxA rfl) ?_
 clear hF hS; rintro _ _ _ a w ⟨b1, rfl, rfl, rfl⟩ hF hS
 refine wpl_ef hF hS rfl (ef_box1 rfl rfl) ?_
 clear hF hS; rintro _ _ _ a w ⟨b2, rfl, rfl, rfl⟩ hF hS
 refine wpl_sq hF hS (sq rfl (q_assign rfl) <|
   sq_end) ?_
 clear hF hS; intro a w hF hS
 refine wpList_nil ?_
 refine hK1 _ _ ?_
 clear hK1
 refine wp_seq_k ?_; intro K2 hK2
 refine regl ?_
 refine wpl_sq hF hS (sq rfl (q_fieldAddr ty34 rfl rfl (s' := 0) kQ) <|
   sq rfl (q_ld_blk1 ty22 1 rfl rfl rfl rfl) <|
   sq_end) ?_
 clear hF hS; intro a w hF hS
 refine wpl_ef hF hS rfl (ef_call fn80 rfl (fun w hS => clone_ct _ _ (by first | with_reducible assumption | omega) w (Sl.mono (hS.le zin0) hxs))) ?_
 clear hF hS; rintro v3 _ _ a w ⟨_, _, rfl, rfl, rfl, rfl⟩ hF hS
 replace hS : St _ [] [_, _, _] _ := hS
 refine wpl_sq hF hS (sq rfl (q_mkf rfl rfl) <|
   sq_end) ?_
 clear hF hS; intro a w hF hS
 refine wpl_ef hF hS rfl (ef_callx fn79 rfl (List.Perm.refl _) (by exact (delf_ct _ _ s _ _ _ hrx (by omega) ))) ?_
 clear hF hS; rintro v5 _ _ a w ⟨_, _, rfl, rfl, ⟨ys6, k7, hrk8, hkl9, hyl10, htk11, hyr12, rfl, rfl⟩⟩ hF hS
 obtain ⟨z13, hz14, hS⟩ := St.freezeV (f := vi) (p := fun x => -9223372036854775808 ≤ x ∧ x ≤ 9223372036854775807) hS hyl10.symm (by omega) hyr12
 have hd15 := del_sl hz14 hrk8 hkl9 hyl10 htk11
 replace hS : St _ [_] [_, _] _ := hS
 refine wpl_sq hF hS (sq rfl (q_assign rfl) <|
   sq_end) ?_
 clear hF hS; intro a w hF hS
 refine wpList_nil ?_
 refine hK2 _ _ ?_
 clear hK2
 refine wp_seq_k ?_; intro K3 hK3
 refine regl ?_
 refine wpl_sq hF hS (sq rfl (q_move rfl) <|
   sq_end) ?_
 clear hF hS; intro a w hF hS
 refine wpl_ef hF hS rfl (ef_call fn75 rfl (fun w hS => extreme_ct _ _ _ (fun _ _ => True) (fun a b => Gu.wi b a) (fun _ _ _ _ => trivial) (by omega) w (Sl.mono (hS.le (.inr (by simp))) hd15) ⟨82, [], [], rfl, fn82, fun w' hle x0 x1 hq => below2_ct _ _ w'⟩)) ?_
 clear hF hS; rintro v16 _ _ a w ⟨_, _, rfl, rfl, ⟨z17, hz18, rfl, rfl⟩⟩ hF hS
 replace hS : St _ [_, _] [_, _] _ := hS
 refine wpl_sq hF hS (sq rfl (q_assign rfl) <|
   sq_end) ?_
 clear hF hS; intro a w hF hS
 refine wpList_nil ?_
 refine hK3 _ _ ?_
 clear hK3
 refine wp_ret ?_
 exact fn_ret (rs := [.tmp 4]) rfl hF hS (vs := [_]) ⟨rfl, trivial⟩ (zs' := [_]) (hs' := []) (List.singleton_sublist.2 (by simp)) zQ (sr_of ⟨_, hz18, rfl, rfl⟩ (rfl))
end Go.Proofs.Ytcbjemjohacbpaa
