/- A text of a proof over this seat: walks over the program's functions and the plain laws that they need. -/
import Derived.Test.YtcbjemjohacbpaaGg5
import Derived.Test.YtcbjemjohacbpaaGuA
import Derived.Test.YtcbjemjohacbpaaFwB
set_option linter.all false
namespace Go.Proofs.Ytcbjemjohacbpaa
open Go.Fw
theorem fn13 : FnOk Try.prog 13 := ⟨_, Try.func13, rfl, by kernel_rfl⟩
theorem fn15 : FnOk Try.prog 15 := ⟨_, Try.func15, rfl, by kernel_rfl⟩
theorem fn56 : FnOk Try.prog 56 := ⟨_, Try.func56, rfl, by kernel_rfl⟩
theorem fn58 : FnOk Try.prog 58 := ⟨_, Try.func58, rfl, by kernel_rfl⟩
theorem fn59 : FnOk Try.prog 59 := ⟨_, Try.func59, rfl, by kernel_rfl⟩
attribute [local irreducible] Gu.insd

set_option maxRecDepth 4000 in
set_option maxHeartbeats 2000000 in
theorem hidden11_ct (g s : Int) (b : Nat) (w : World) (hbx : w.heap[b]? = some (.cells [vi s].toArray 3 (0, 0))) : Ct Try.prog 58 [vi g, .pointer (some ⟨b, 0, none⟩)] w (fun r _ _ => r = .bool (Gu.wi g s)) := by
 refine fn_enter Try.func58 rfl Try.ntmps58 (Nat.le_of_ble_eq_true rfl) fun a hF hS => ?_
 refine wp_seq_k ?_; intro K1 hK1
 refine reg hF hS (sq rfl (q_assign rfl) <|
   sq_end) ?_
 clear hF hS; intro a w hF hS
 refine hK1 _ _ ?_
 clear hK1
 refine wp_seq_k ?_; intro K2 hK2
 refine reg hF hS (sq rfl (q_move rfl) <|
   sq rfl (q_ld_old1 ty3 rfl hbx rfl rfl) <|
   sq rfl (q_call fn59 rfl (fun w hS => wing_ct _ _ w ) (fun _ _ _ h => h)) <|
   sq rfl (q_assign rfl) <|
   sq_end) ?_
 clear hF hS; intro a w hF hS
 refine hK2 _ _ ?_
 clear hK2
 refine wp_ret ?_
 exact fn_ret (rs := [.tmp 3]) rfl hF hS (vs := [_]) ⟨rfl, trivial⟩ zQ zQ (rfl)

set_option maxRecDepth 4000 in
set_option maxHeartbeats 2000000 in
theorem hidden1_ct (i s : Int) (e1 e2 e3 : Nat) (nv sv mv gv bv : Value) (xb bs : List Bool) (g : List Int) (hi : 0 ≤ i ∧ i < xb.length ∧ i < bs.length) (w : World) (hb1 : w.heap[e1]? = some (.cells [nv, sv, mv].toArray 34 (0, 0))) (hxb : Sl encT (ph w) mv xb) (hb2 : w.heap[e2]? = some (.cells [bv].toArray 23 (0, 0))) (hb : Sl encT (ph w) bv bs) (hb3 : w.heap[e3]? = some (.cells [gv].toArray 22 (0, 0))) (hgy : Sl encI (ph w) gv g) : Ct Try.prog 56 [vi i, vi s, .pointer (some ⟨e1, 0, none⟩), .pointer (some ⟨e2, 0, none⟩), .pointer (some ⟨e3, 0, none⟩)] w (fun r _ _ => r = .bool (Gu.hp xb bs g i s)) := by
 refine fn_enter Try.func56 rfl Try.ntmps56 (Nat.le_of_ble_eq_true rfl) fun a hF hS => ?_
 refine wp_seq_k ?_; intro K1 hK1
 refine regl ?_
 refine wpl_ef hF hS rfl (ef_box1 rfl rfl) ?_
 clear hF hS; rintro _ _ _ a w ⟨b1, rfl, rfl, rfl⟩ hF hS
 refine wpl_sq hF hS (sq rfl (q_assign rfl) <|
   sq_end) ?_
 clear hF hS; intro a w hF hS
 refine wpList_nil ?_
 refine hK1 _ _ ?_
 clear hK1
 refine wp_seq_k ?_; intro K2 hK2
 refine regl ?_
 refine wpl_sq hF hS (sq rfl (q_fieldAddr ty34 rfl rfl (s' := 0) kQ) <|
   sq rfl (q_ld_old1 ty23 rfl hb1 rfl rfl) <|
   sq rfl (q_move rfl) <|
   sq rfl (q_idx_sl ty23 ty4 hxb rfl rfl (by omega)) <|
   sq rfl (q_ld_T ty4 hxb zin0 rfl rfl (by omega)) <|
   sq rfl (q_move rfl) <|
   sq_end) ?_
 clear hF hS; intro a w hF hS
 refine wpl_and 5 13 5 hF hS rfl rfl rfl rfl rfl (fun hg => have hg := hg; sq_go 13 rfl rfl rfl (q_ld_old1 ty23 rfl hb2 rfl rfl) <|
   sq_go 13 rfl rfl rfl (q_move rfl) <|
   sq_go 13 rfl rfl rfl (q_idx_sl ty23 ty4 hb rfl rfl (by omega)) <|
   sq_go 13 rfl rfl rfl (q_ld_T ty4 hb zin0 rfl rfl (by omega)) <|
   sq_go 13 rfl rfl rfl (q_not rfl) <|
   sq_end) rfl rfl ?_
 clear hF hS; intro a w hF hS
 refine wpl_sq hF hS (sq rfl (q_move rfl) <|
   sq_end) ?_
 clear hF hS; intro a w hF hS
 refine wpl_and 12 20 3 hF hS rfl rfl rfl rfl rfl (fun hg => have hg := hg; sq_go 20 rfl rfl rfl (q_ld_old1 ty22 rfl hb3 rfl rfl) <|
   sq_go 20 rfl rfl rfl (q_mkf rfl rfl) <|
   sq_go 20 rfl rfl rfl (q_call fn57 rfl (fun w hS => contf_ct _ _ _ (fun _ => True) (fun y => Gu.wi y s) (fun _ _ => trivial) w (Sl.mono (hS.le zin0) hgy) ⟨58, [], [_], rfl, fn58, fun w' hle x0 hq => hidden11_ct _ _ _ w' (hle _ _ (own_box hS 0 rfl))⟩) (fun _ _ _ h => h)) <|
   sq_end) rfl rfl ?_
 clear hF hS; intro a w hF hS
 refine wpl_sq hF hS (sq rfl (q_assign rfl) <|
   sq_end) ?_
 clear hF hS; intro a w hF hS
 refine wpList_nil ?_
 refine hK2 _ _ ?_
 clear hK2
 refine wp_ret ?_
 exact fn_ret (rs := [.tmp 7]) rfl hF hS (vs := [_]) ⟨rfl, trivial⟩ zQ zQ (rfl)

set_option maxRecDepth 4000 in
set_option maxHeartbeats 2000000 in
theorem hidden_ct (xN xS xB : Value) (xs : List Int) (xb : List Bool) (v : Value) (bs : List Bool) (hl : xs.length < 1048576) (w : World) (hxn : xN.oneCell' = true) (hxs : Sl encI (ph w) xS xs) (hxb : Sl encT (ph w) xB xb) (hb : Sl encT (ph w) v bs) : Ct Try.prog 20 [.agg [xN, xS, xB].toArray, v] w (SlE encI (Gu.hid xs xb bs) (Gu.ge xs xb bs)) := by
 refine fn_enter Try.func20 rfl Try.ntmps20 (Nat.le_of_ble_eq_true rfl) fun a hF hS => ?_
 have hbl := hb.1
 have hsl := hxs.1
 have htl := hxb.1
 refine wp_seq_k ?_; intro K1 hK1
 refine regl ?_
 refine wpl_ef hF hS rfl (ef_boxA rfl) ?_
 clear hF hS; rintro _ _ _ a w ⟨b1, rfl, rfl, rfl⟩ hF hS
 refine wpl_ef hF hS rfl (ef_box1 rfl (sl_one' hb)) ?_
 clear hF hS; rintro _ _ _ a w ⟨b2, rfl, rfl, rfl⟩ hF hS
 refine wpl_sq hF hS (sq rfl (q_assign rfl) <|
   sq rfl (q_assign rfl) <|
   sq_end) ?_
 clear hF hS; intro a w hF hS
 refine wpList_nil ?_
 refine hK1 _ _ ?_
 clear hK1
 refine wp_seq_k ?_; intro K2 hK2
 refine regl ?_
 refine wpl_sq hF hS (sq rfl (q_ld_blkW ty34 1 rfl rfl bQ rfl) <|
   sq rfl (q_ld_blk1 ty23 0 rfl rfl rfl rfl) <|
   sq_end) ?_
 clear hF hS; intro a w hF hS
 refine wpl_ef hF hS rfl (ef_call fn13 rfl (fun w hS => guilty_ct _ _ _ _ _ _ _ (by first | with_reducible assumption | omega) w hxn (Sl.mono (hS.le zin0) hxs) (Sl.mono (hS.le zin0) hxb) (Sl.mono (hS.le zin0) hb))) ?_
 clear hF hS; rintro _ _ _ a w ⟨_, _, rfl, rfl, ⟨v4, z5, hz6, rfl, rfl, rfl⟩⟩ hF hS
 replace hS : St _ [_] [_, _] _ := hS
 refine wpl_sq hF hS (sq rfl (q_move rfl) <|
   sq rfl (q_extract rfl rfl) <|
   sq rfl (q_extract rfl rfl) <|
   sq_end) ?_
 clear hF hS; intro a w hF hS
 refine wpl_ef hF hS rfl (ef_alloc1 ty22 (by rfl)) ?_
 clear hF hS; rintro _ _ _ a w ⟨b7, rfl, rfl, rfl⟩ hF hS
 refine wpl_ef hF hS rfl (ef_store1 ty22 0 rfl rfl rfl (sl_one' hz6) (by simp)) ?_
 clear hF hS; rintro _ _ _ a w ⟨rfl, rfl, rfl⟩ hF hS
 (try simp only [List.set_cons_zero, List.set_cons_succ] at hS)
 replace hS : St _ [_] [_, _, _] _ := hS
 refine wpl_sq hF hS (sq rfl (q_assign rfl) <|
   sq_end) ?_
 clear hF hS; intro a w hF hS
 refine wpList_nil ?_
 refine hK2 _ _ ?_
 clear hK2
 refine wp_seq_k ?_; intro K3 hK3
 refine wp_seq_k ?_; intro K4 hK4
 refine reg hF hS (sq rfl (q_move rfl) <|
   sq rfl (q_nei rfl rfl) <|
   sq_end) ?_
 clear hF hS; intro a w hF hS
 refine hK4 _ _ ?_
 clear hK4
 refine wp_ifn hF rfl (fun hc1 => ?_) (fun hc1 => ?_)
 ·have hft := Gu.ge_ne hc1
  refine wp_seq_k ?_; intro K5 hK5
  refine reg hF hS (sq rfl (q_move rfl) <|
    sq rfl (q_assign rfl) <|
    sq rfl (q_assign rfl) <|
    sq_end) ?_
  clear hF hS; intro a w hF hS
  refine hK5 _ _ ?_
  clear hK5
  refine wp_ret ?_
  replace hS := hS.zone00
  exact fn_ret (rs := [.tmp 4, .tmp 5]) rfl hF hS (vs := [_, _]) ⟨rfl, rfl, trivial⟩ (zs' := [_]) (hs' := []) (List.singleton_sublist.2 (by simp)) zQ (se_of ⟨_, _, (sl_nil (z := fun _ => none)), rfl, rfl, rfl⟩ (by unfold Gu.hid; rw [hft]; rfl) (rfl))
 ·have hft := Gu.ge_eq hc1
  have hfu := Gu.fits_use hft
  refine wp_skip ?_
  refine hK3 _ _ ?_
  clear hK3
  refine wp_seq_k ?_; intro K6 hK6
  refine regl ?_
  refine wpl_sq hF hS (sq rfl (q_fieldAddr ty34 rfl rfl (s' := 0) kQ) <|
    sq rfl (q_ld_blk1 ty22 2 rfl rfl rfl rfl) <|
    sq rfl (q_mkf rfl rfl) <|
    sq_end) ?_
  clear hF hS; intro a w hF hS
  refine wpl_ef hF hS rfl (ef_call fn52 rfl (fun w hS => filter_ct _ _ _ (fun i _ => 0 ≤ i ∧ i < xb.length ∧ i < bs.length) (Gu.hp xb bs (Gu.gl xs xb bs)) (fun k hk => ⟨by omega, by omega, by omega⟩) (by omega) w (Sl.mono (hS.le zin0) hxs) ⟨56, [], [_, _, _], rfl, fn56, fun w' hle x0 x1 hq => hidden1_ct _ _ _ _ _ _ _ _ _ _ _ _ _ hq w' (hle _ _ (own_box hS 2 rfl)) (Sl.mono (PH.le_tr (hS.le zin0) hle) hxb) (hle _ _ (own_box hS 1 rfl)) (Sl.mono (PH.le_tr (hS.le zin0) hle) hb) (hle _ _ (own_box hS 0 rfl)) (Sl.mono (PH.le_tr (hS.le (z := z5) (.inr (by simp))) hle) hz6)⟩)) ?_
  clear hF hS; rintro v8 _ _ a w ⟨_, _, rfl, rfl, ⟨z9, hz10, rfl, rfl⟩⟩ hF hS
  replace hS : St _ [_, _] [_, _, _] _ := hS
  refine wpl_sq hF hS (sq rfl (q_assign rfl) <|
    sq rfl (q_assign rfl) <|
    sq_end) ?_
  clear hF hS; intro a w hF hS
  refine wpList_nil ?_
  refine hK6 _ _ ?_
  clear hK6
  refine wp_ret ?_
  exact fn_ret (rs := [.tmp 4, .tmp 5]) rfl hF hS (vs := [_, _]) ⟨rfl, rfl, trivial⟩ (zs' := [_]) (hs' := []) (List.singleton_sublist.2 (by simp)) zQ (se_of ⟨_, _, hz10, rfl, rfl, rfl⟩ (by unfold Gu.hid; rw [hft]; rfl) (by unfold Gu.ge; rw [hft]; rfl))

end Go.Proofs.Ytcbjemjohacbpaa
