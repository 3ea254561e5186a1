/- A text of a proof over this seat: walks over the program's functions and the plain laws that they need. -/
import Derived.Test.YtdojfnigffeblaaDoorFwA
import Derived.Test.YtdojfnigffeblaaDoorFwB
import Derived.Test.YtdojfnigffeblaaDoorFwC
import Derived.Test.YtdojfnigffeblaaDoorFwD
import Derived.Test.YtdojfnigffeblaaDoorGuA
import Derived.Test.YtdojfnigffeblaaDoorMkA
import Derived.Test.YtdojfnigffeblaaDoorC1
set_option linter.all false
namespace Go.Proofs.YtdojfnigffeblaaDoor
open Go.Fw
set_option maxRecDepth 4000
set_option maxHeartbeats 2000000
section
theorem ty129 : Tf Tryd.prog 129 (.func #[3, 3] #[29] false) 1 8 (Value.nilFunc) := ⟨Tryd.underlying129, by kernel_rfl⟩
theorem fn15 : FnOk Tryd.prog 15 := fQ Tryd.func15
theorem fn50 : FnOk Tryd.prog 50 := fQ Tryd.func50
theorem fn51 : FnOk Tryd.prog 51 := fQ Tryd.func51
theorem fn78 : FnOk Tryd.prog 78 := fQ Tryd.func78
theorem fn79 : FnOk Tryd.prog 79 := fQ Tryd.func79
theorem fn80 : FnOk Tryd.prog 80 := fQ Tryd.func80
theorem fn81 : FnOk Tryd.prog 81 := fQ Tryd.func81
theorem fn82 : FnOk Tryd.prog 82 := fQ Tryd.func82
attribute [local irreducible] Sha.sum Sha.mac Sha.ofD Wi.int Wi.ints Wi.bytes Sha.inp Mk.half Lib.compareBytes
theorem leaf_ct (x : Mk.Lf) (hx : x.1.length < 1048576 ∧ x.2.length < 1048576) (w : World) {fz1 : Nat × Nat} {bt1 : TypeId} (hg1 : w.heap[2]? = some (.cells (Sha.kc.map vw).toArray bt1 fz1)) : Ct Tryd.prog 80 [.agg [vs x.1, vs x.2].toArray] w (fun r _ _ => r = .agg ((Mk.leafD x).map vb).toArray) := by
 refine fn_enter Tryd.func80 rfl Tryd.ntmps80 lB fun a hF hS => ?_
 have hol := Sha.ofD_len 3 [x.1, x.2]
 refine reglS fun K1 hK1 => ?_
 refine eQ hF hS rfl (ef_boxA rfl) ?_
 rintro _ _ _ a w ⟨b1, rfl, rfl, rfl⟩ hF hS
 refine eQ hF hS rfl (ef_allocA ty29) ?_
 rintro _ _ _ a w ⟨b2, rfl, rfl, rfl⟩ hF hS
 rw [show List.replicate 16 (Value.int .u8 0) = (List.replicate 16 (0 : UInt8)).map vb from by rw [List.map_replicate] <;> rfl] at hS
 refine wpList_nil (hK1 _ _ ?_)
 refine reglS fun K2 hK2 => ?_
 refine lQ hF hS (q0 (q_fieldAddr ty41 rfl rfl (s' := 0) kQ) <| q0 (q_ld_blk1 ty9 1 rfl rfl rfl rfl) <| q0 (q_fieldAddr ty41 rfl rfl (s' := 0) kQ) <| q0 (q_ld_blk1 ty9 1 rfl rfl rfl rfl) <| sq_end) fun a w hF hS => ?_
 refine eQ hF hS rfl (ef_bsliceA ty47 ty9 rfl rfl oQ deQ rfl rfl) ?_
 rintro v3 _ _ a w ⟨rfl, rfl⟩ hF hS
 replace hS := nl0_3 hS
 refine lQ hF hS (q0 (q_call fn78 rfl (fun w hS => of_ct _ _ _ (by simp; omega) (by simp) w (own_slV (f := vs) (xs := [x.1, x.2]) (hS.ow 0 rfl) (by simp; omega) rfl (by first | decide | omega)) (hS.ext _ _ hg1)) hI) <| sq_end) fun a w hF hS => ?_
 refine eQ hF hS rfl (ef_storeW ty29 1 rfl rfl rfl rfl bQ oQ bQ) ?_
 rintro _ _ _ a w ⟨rfl, rfl, rfl⟩ hF hS
 replace hS := nl0_3 hS
 refine wpList_nil (hK2 _ _ ?_)
 refine wp_ret ?_
 exact fn_ret (rs := [.cell 2 29]) rfl hF hS (vs := [_]) ⟨⟨_, _, _, _, _, _, _, rfl, List.mem_of_getElem? (i := 1) rfl, ty29, .inl ⟨rfl, bQ, rfl⟩⟩, trivial⟩ zQ zQ (rfl)
theorem node_ct (da db : List UInt8) (ha : da.length = 16) (hb : db.length = 16) (w : World) {fz1 : Nat × Nat} {bt1 : TypeId} (hg1 : w.heap[2]? = some (.cells (Sha.kc.map vw).toArray bt1 fz1)) : Ct Tryd.prog 82 [.agg ((da).map vb).toArray, .agg ((db).map vb).toArray] w (fun r _ _ => r = .agg ((Mk.nodeD da db).map vb).toArray) := by
 refine fn_enter Tryd.func82 rfl Tryd.ntmps82 lB fun a hF hS => ?_
 have hol := Sha.ofD_len 4 [da, db]
 refine reglS fun K1 hK1 => ?_
 refine eQ hF hS rfl (ef_boxA rfl) ?_
 rintro _ _ _ a w ⟨b1, rfl, rfl, rfl⟩ hF hS
 refine eQ hF hS rfl (ef_boxA rfl) ?_
 rintro _ _ _ a w ⟨b2, rfl, rfl, rfl⟩ hF hS
 refine eQ hF hS rfl (ef_allocA ty29) ?_
 rintro _ _ _ a w ⟨b3, rfl, rfl, rfl⟩ hF hS
 rw [show List.replicate 16 (Value.int .u8 0) = (List.replicate 16 (0 : UInt8)).map vb from by rw [List.map_replicate] <;> rfl] at hS
 refine wpList_nil (hK1 _ _ ?_)
 refine k0 ?_; intro K2 hK2
 refine regt 4 mixed kQ hF hS (q0 (q_sla ty29 ty5 rfl) <| q0 (q_b2s_blkM ty39 ty9 ty5 2 rfl rfl bQ) <| q0 (q_sla ty29 ty5 rfl) <| q0 (q_b2s_blkM ty39 ty9 ty5 1 rfl rfl bQ) <| sq_end) fun a w hF hS => ?_
 refine eQ hF hS rfl (ef_bsliceA ty47 ty9 rfl rfl oQ deQ rfl rfl) ?_
 rintro v4 _ _ a w ⟨rfl, rfl⟩ hF hS
 replace hS := nl0_4 hS
 refine lQ hF hS (q0 (q_call fn78 rfl (fun w hS => of_ct _ _ _ (by simp; omega) (by simp) w (own_slV (f := vs) (xs := [da, db]) (hS.ow 0 rfl) (by simp; omega) rfl (by first | decide | omega)) (hS.ext _ _ hg1)) hI) <| sq_end) fun a w hF hS => ?_
 refine eQ hF hS rfl (ef_storeW ty29 1 rfl rfl rfl rfl bQ oQ bQ) ?_
 rintro _ _ _ a w ⟨rfl, rfl, rfl⟩ hF hS
 replace hS := nl0_4 hS
 refine wpList_nil (hK2 _ _ ?_)
 refine wp_ret ?_
 exact fn_ret (rs := [.cell 4 29]) rfl hF hS (vs := [_]) ⟨⟨_, _, _, _, _, _, _, rfl, List.mem_of_getElem? (i := 1) rfl, ty29, .inl ⟨rfl, bQ, rfl⟩⟩, trivial⟩ zQ zQ (rfl)
theorem root_ct (n : Int) (d : List UInt8) (hd : d.length = 16) (hn : 0 ≤ n ∧ n ≤ 9223372036854775807) (w : World) {fz1 : Nat × Nat} {bt1 : TypeId} (hg1 : w.heap[2]? = some (.cells (Sha.kc.map vw).toArray bt1 fz1)) : Ct Tryd.prog 50 [vi n, .agg ((d).map vb).toArray] w (fun r _ _ => r = .agg ((Mk.rootD n.toNat d).map vb).toArray) := by
 refine fn_enter Tryd.func50 rfl Tryd.ntmps50 lB fun a hF hS => ?_
 have hol := Sha.ofD_len 4 [Wi.int n, d]
 have hol0 := Sha.ofD_len 4 [Wi.int 0]
 have hil := Wi.int_len9 n
 have hil0 := Wi.int_len9 0
 refine reglS fun K1 hK1 => ?_
 refine eQ hF hS rfl (ef_boxA rfl) ?_
 rintro _ _ _ a w ⟨b1, rfl, rfl, rfl⟩ hF hS
 refine eQ hF hS rfl (ef_allocA ty29) ?_
 rintro _ _ _ a w ⟨b2, rfl, rfl, rfl⟩ hF hS
 rw [show List.replicate 16 (Value.int .u8 0) = (List.replicate 16 (0 : UInt8)).map vb from by rw [List.map_replicate] <;> rfl] at hS
 refine wpList_nil (hK1 _ _ ?_)
 refine k0 ?_; intro K2 hK2
 refine regS hF hS (mQ rfl <| q0 (q_eqi rfl rfl) <| sq_end) fun a w hF hS => ?_
 refine wp_ifd hF rfl (fun hc1 => ?_) (fun hc1 => ?_)
 ·refine k0 ?_; intro K4 hK4
  refine regl ?_
  refine eQ hF hS rfl (ef_call fn39 rfl (fun w hS => wint_ct _ w )) ?_
  rintro v3 _ _ a w ⟨_, _, rfl, rfl, rfl, rfl⟩ hF hS
  replace hS := nl0_3 hS
  refine lQ hF hS (q0 (q_b2s_row ty39 ty9 ty5 0 rfl rfl) <| sq_end) fun a w hF hS => ?_
  refine eQ hF hS rfl (ef_bsliceA ty47 ty9 rfl rfl oQ deQ rfl rfl) ?_
  rintro v5 _ _ a w ⟨rfl, rfl⟩ hF hS
  replace hS := nl0_4 hS
  refine lQ hF hS (q0 (q_call fn78 rfl (fun w hS => of_ct _ _ _ (by simp; omega) (by simp) w (own_slV (f := vs) (xs := [Wi.int 0]) (hS.ow 0 rfl) (by simp; omega) rfl (by first | decide | omega)) (hS.ext _ _ hg1)) hI) <| sq_end) fun a w hF hS => ?_
  refine eQ hF hS rfl (ef_storeW ty29 2 rfl rfl rfl rfl bQ oQ bQ) ?_
  rintro _ _ _ a w ⟨rfl, rfl, rfl⟩ hF hS
  replace hS := nl0_4 hS
  refine wpList_nil (hK4 _ _ ?_)
  refine wp_ret ?_
  exact fn_ret (rs := [.cell 4 29]) rfl hF hS (vs := [_]) ⟨⟨_, _, _, _, _, _, _, rfl, List.mem_of_getElem? (i := 2) rfl, ty29, .inl ⟨rfl, bQ, rfl⟩⟩, trivial⟩ zQ zQ (by unfold Mk.rootD; rw [if_pos omQ])
 ·refine wp_skip ?_
  refine hK2 _ _ ?_
  refine k0 ?_; intro K5 hK5
  revert hS; revert hF; apply regJ (J := J2 (α0 := Value) (α1 := Value) 18 _ _ _ _ _) #[false, false, false, false, false, false, false, false] 8 mixed rfl rfl
  ·intro w hF hS
   refine tQ 0 rfl hF (hS.keep sQ zQ) (q_move rfl) fun a hF => ?_
   refine tQ 3 rfl hF (hS.keep sQ (sN1)) (q_sla ty29 ty5 rfl) fun a hF => ?_
   refine tQ 4 rfl hF (hS.keep sQ (sN1)) (q_b2s_blkM ty39 ty9 ty5 0 rfl rfl bQ) fun a hF => ?_
   refine gQ 1 rfl rfl hF hS rfl (ef_call fn39 rfl (fun w hS => wint_ct _ w )) ?_
   rintro v_3_1 _ _ a w ⟨_, _, rfl, rfl, rfl, rfl⟩ hF hS
   refine ⟨⟨.inr (hS.k1 (sN2)), .inr (hS.k1 (sN2)), iQ, trivial⟩, ?_⟩
   refine tQ 2 rfl hF (hS.keep sQ (zQ.k)) (q_b2s_row ty39 ty9 ty5 0 rfl rfl) fun a hF => ?_
   refine gQ 5 rfl rfl hF hS rfl (ef_bsliceA ty47 ty9 rfl rfl oQ deQ rfl rfl) ?_
   rintro v_3_5 _ _ a w ⟨rfl, rfl⟩ hF hS
   refine ⟨⟨iQ, iQ, iQ, iQ, trivial⟩, ?_⟩
   refine gQ 6 rfl rfl hF hS rfl (ef_qt (q_call fn78 rfl (fun w hS => of_ct _ _ _ (by simp; omega) (by simp) w (own_slV (f := vs) (xs := [Wi.int n, d]) (hS.ow 0 rfl) (by simp; omega) rfl (by first | decide | omega)) (hS.ext _ _ hg1)) hI)) ?_
   rintro _ _ _ a w ⟨rfl, rfl, rfl⟩ hF hS
   refine ⟨⟨iQ, iQ, iQ, iQ, trivial⟩, ?_⟩
   refine gQ 7 rfl rfl hF hS rfl (ef_storeW ty29 2 rfl rfl rfl rfl bQ oQ bQ) ?_
   rintro _ _ _ a w ⟨rfl, rfl, rfl⟩ hF hS
   refine ⟨⟨iQ, iQ, iQ, iQ, trivial⟩, ?_⟩
   exact goW_done kQ (j2_mk v_3_1 v_3_5 (trivial) (hF.sub (L' := [(4, _)]) ⟨rfl, trivial⟩) hS)
  rintro a w ⟨v_3_1, v_3_5, -, hF, hS⟩
  (try dsimp only at hF hS)
  refine hK5 _ _ ?_
  refine wp_ret ?_
  exact fn_ret (rs := [.cell 4 29]) rfl hF hS (vs := [_]) ⟨⟨_, _, _, _, _, _, _, rfl, List.mem_of_getElem? (i := 2) rfl, ty29, .inl ⟨rfl, bQ, rfl⟩⟩, trivial⟩ zQ zQ (by unfold Mk.rootD; rw [if_neg omQ, Int.toNat_of_nonneg hn.1])
theorem dig_step (v : Value) (ls : List Mk.Lf) (e1 e3 : Nat) {bte1 bte3 : TypeId} {fze1 fze3 : Nat × Nat} (hl : ls.length < 1048576) (hx : ∀ x ∈ ls, x.1.length < 1048576 ∧ x.2.length < 1048576) (fz1 : Nat × Nat) (bt1 : TypeId) (f : Nat) (ih : ∀ (lo hi : Int) (n : Nat) (ha : 0 ≤ lo) (hn : hi = lo + n) (hn1 : 1 ≤ n) (hnf : n ≤ f) (han : lo + n ≤ ls.length) (w : World) (hb1 : w.heap[e1]? = some (.cells [v].toArray bte1 fze1)) (hb : Sl encF (ph w) v ls) (hb3 : w.heap[e3]? = some (.cells [.func (.func 79) (List.nil : List Value).toArray [Value.pointer (some ⟨e1, 0, none⟩), Value.pointer (some ⟨e3, 0, none⟩)].toArray].toArray bte3 fze3)) (hg1 : w.heap[2]? = some (.cells (Sha.kc.map vw).toArray bt1 fz1)), Ct Tryd.prog 79 [vi lo, vi hi, .pointer (some ⟨e1, 0, none⟩), .pointer (some ⟨e3, 0, none⟩)] w (fun r _ _ => r = .agg ((Mk.rowD (Mk.sub ls lo.toNat n)).map vb).toArray)) (lo hi : Int) (n : Nat) (ha : 0 ≤ lo) (hn : hi = lo + n) (hn1 : 1 ≤ n) (hnf : n ≤ f + 1) (han : lo + n ≤ ls.length) (w : World) (hb1 : w.heap[e1]? = some (.cells [v].toArray bte1 fze1)) (hb : Sl encF (ph w) v ls) (hb3 : w.heap[e3]? = some (.cells [.func (.func 79) (List.nil : List Value).toArray [Value.pointer (some ⟨e1, 0, none⟩), Value.pointer (some ⟨e3, 0, none⟩)].toArray].toArray bte3 fze3)) (hg1 : w.heap[2]? = some (.cells (Sha.kc.map vw).toArray bt1 fz1)) : Ct Tryd.prog 79 [vi lo, vi hi, .pointer (some ⟨e1, 0, none⟩), .pointer (some ⟨e3, 0, none⟩)] w (fun r _ _ => r = .agg ((Mk.rowD (Mk.sub ls lo.toNat n)).map vb).toArray) := by
 refine fn_enter Tryd.func79 rfl Tryd.ntmps79 lB fun a hF hS => ?_
 have hbl := hb.1
 have hhp := Mk.half_pos n
 have hr1 := Mk.rowD_16 (ls := Mk.sub ls lo.toNat n) (by rw [Mk.sub_len omQ]; omega)
 refine reglS fun K1 hK1 => ?_
 refine eQ hF hS rfl (ef_allocA ty29) ?_
 rintro _ _ _ a w ⟨b1, rfl, rfl, rfl⟩ hF hS
 rw [show List.replicate 16 (Value.int .u8 0) = (List.replicate 16 (0 : UInt8)).map vb from by rw [List.map_replicate] <;> rfl] at hS
 refine wpList_nil (hK1 _ _ ?_)
 refine k0 ?_; intro K2 hK2
 refine regS hF hS (mQ rfl <| mQ rfl <| dQ rfl rfl <| q0 (q_eqi rfl rfl) <| sq_end) fun a w hF hS => ?_
 refine wp_ifd hF rfl (fun hc1 => ?_) (fun hc1 => ?_)
 ·have hn3 : n = 1 := by omega
  have hxa := hx (ls.getD lo.toNat kv0) (Mk.getD_in omQ)
  have hd16 := Mk.leafD_16 (ls.getD lo.toNat kv0)
  refine reglS fun K4 hK4 => ?_
  refine lQ hF hS (q0 (q_ld_old1 ty33 rfl hb1 rfl rfl) <| mQ rfl <| q0 (q_idx_sl ty33 ty41 hb rfl rfl omQ) <| q0 (q_ld_F ty41 hb zin0 rfl rfl omQ) <| q0 (q_call fn80 rfl (fun w hS => leaf_ct (ls.getD lo.toNat kv0) hxa w (hS.ext _ _ hg1)) hI) <| sq_end) fun a w hF hS => ?_
  refine eQ hF hS rfl (ef_storeW ty29 0 rfl rfl rfl rfl bQ oQ bQ) ?_
  rintro _ _ _ a w ⟨rfl, rfl, rfl⟩ hF hS
  replace hS := nl0_1 hS
  refine wpList_nil (hK4 _ _ ?_)
  refine wp_ret ?_
  exact fn_ret (rs := [.cell 6 29]) rfl hF hS (vs := [_]) ⟨⟨_, _, _, _, _, _, _, rfl, List.mem_of_getElem? (i := 0) rfl, ty29, .inl ⟨rfl, bQ, rfl⟩⟩, trivial⟩ zQ zQ (by rw [hn3, Mk.rowD_sub1 omQ])
 ·have hn2 : 2 ≤ n := by omega
  have hhl := Mk.half_lt hn2
  have hra := Mk.rowD_16 (ls := Mk.sub ls lo.toNat (Mk.half n)) (by rw [Mk.sub_len omQ]; omega)
  have hrb := Mk.rowD_16 (ls := Mk.sub ls (lo + Mk.half n).toNat (n - Mk.half n)) (by rw [Mk.sub_len omQ]; omega)
  have hnd := Mk.nodeD_16 (Mk.rowD (Mk.sub ls lo.toNat (Mk.half n))) (Mk.rowD (Mk.sub ls (lo + Mk.half n).toNat (n - Mk.half n)))
  refine wp_skip ?_
  refine hK2 _ _ ?_
  refine regS hF hS (mQ rfl <| mQ rfl <| q0 (q_call fn81 rfl (fun w hS => middle_ct _ _ n omQ omQ omQ omQ w ) hI) <| aQ rfl <| sq_end) fun a w hF hS => ?_
  refine k0 ?_; intro K6 hK6
  refine regt 9 mixed kQ hF hS (q0 (q_ld_old1 ty129 rfl hb3 rfl rfl) <| mQ rfl <| mQ rfl <| q0 (q_callv fn79 rfl rfl (by exact fun w hS => ih _ _ (Mk.half n) omQ omQ omQ omQ omQ w (hS.ext _ _ hb1) (Sl.mono (hS.le zin0) hb) (hS.ext _ _ hb3) (hS.ext _ _ hg1)) hI) <| q0 (q_ld_old1 ty129 rfl hb3 rfl rfl) <| mQ rfl <| mQ rfl <| q0 (q_callv fn79 rfl rfl (by exact fun w hS => ih _ _ (n - Mk.half n) omQ omQ omQ omQ omQ w (hS.ext _ _ hb1) (Sl.mono (hS.le zin0) hb) (hS.ext _ _ hb3) (hS.ext _ _ hg1)) hI) <| q0 (q_call fn82 rfl (fun w hS => node_ct _ _ (by first | with_reducible assumption | omega) (by first | with_reducible assumption | omega) w (hS.ext _ _ hg1)) hI) <| sq_end) fun a w hF hS => ?_
  refine eQ hF hS rfl (ef_storeW ty29 0 rfl rfl rfl rfl bQ oQ bQ) ?_
  rintro _ _ _ a w ⟨rfl, rfl, rfl⟩ hF hS
  replace hS := nl0_1 hS
  refine wpList_nil (hK6 _ _ ?_)
  refine wp_ret ?_
  exact fn_ret (rs := [.cell 6 29]) rfl hF hS (vs := [_]) ⟨⟨_, _, _, _, _, _, _, rfl, List.mem_of_getElem? (i := 0) rfl, ty29, .inl ⟨rfl, bQ, rfl⟩⟩, trivial⟩ zQ zQ (by rw [Mk.rowD_sub omQ hn2, show lo.toNat + Mk.half n = (lo + Mk.half n).toNat by omega])
theorem dig_all (v : Value) (ls : List Mk.Lf) (e1 e3 : Nat) {bte1 bte3 : TypeId} {fze1 fze3 : Nat × Nat} (hl : ls.length < 1048576) (hx : ∀ x ∈ ls, x.1.length < 1048576 ∧ x.2.length < 1048576) (fz1 : Nat × Nat) (bt1 : TypeId) : ∀ (f : Nat) (lo hi : Int) (n : Nat) (ha : 0 ≤ lo) (hn : hi = lo + n) (hn1 : 1 ≤ n) (hnf : n ≤ f) (han : lo + n ≤ ls.length) (w : World) (hb1 : w.heap[e1]? = some (.cells [v].toArray bte1 fze1)) (hb : Sl encF (ph w) v ls) (hb3 : w.heap[e3]? = some (.cells [.func (.func 79) (List.nil : List Value).toArray [Value.pointer (some ⟨e1, 0, none⟩), Value.pointer (some ⟨e3, 0, none⟩)].toArray].toArray bte3 fze3)) (hg1 : w.heap[2]? = some (.cells (Sha.kc.map vw).toArray bt1 fz1)), Ct Tryd.prog 79 [vi lo, vi hi, .pointer (some ⟨e1, 0, none⟩), .pointer (some ⟨e3, 0, none⟩)] w (fun r _ _ => r = .agg ((Mk.rowD (Mk.sub ls lo.toNat n)).map vb).toArray) := by
 intro f
 induction f with
 | zero => intro lo hi n ha hn hn1 hnf; omega
 | succ f ih => exact fun lo hi n ha hn hn1 hnf han w hb1 hb hb3 hg1 => dig_step v ls e1 e3 hl hx fz1 bt1 f ih lo hi n ha hn hn1 hnf han w hb1 hb hb3 hg1
theorem digest_ct (v : Value) (ls : List Mk.Lf) (hl : ls.length < 1048576) (h1 : 1 ≤ ls.length) (hx : ∀ x ∈ ls, x.1.length < 1048576 ∧ x.2.length < 1048576) (w : World) (hb : Sl encF (ph w) v ls) {fz1 : Nat × Nat} {bt1 : TypeId} (hg1 : w.heap[2]? = some (.cells (Sha.kc.map vw).toArray bt1 fz1)) : Ct Tryd.prog 51 [v] w (fun r _ _ => r = .agg ((Mk.rowD ls).map vb).toArray) := by
 refine fn_enter Tryd.func51 rfl Tryd.ntmps51 lB fun a hF hS => ?_
 have hbl := hb.1
 have hr1 := Mk.rowD_16 h1
 have hr2 : (Mk.rowD (Mk.sub ls 0 ls.length)).length = 16 := by rw [Mk.sub_all]; exact hr1
 refine reglS fun K1 hK1 => ?_
 refine eQ hF hS rfl (ef_box1 rfl (sl_one' hb)) ?_
 rintro _ _ _ a w ⟨b1, rfl, rfl, rfl⟩ hF hS
 refine eQ hF hS rfl (ef_allocA ty29) ?_
 rintro _ _ _ a w ⟨b2, rfl, rfl, rfl⟩ hF hS
 rw [show List.replicate 16 (Value.int .u8 0) = (List.replicate 16 (0 : UInt8)).map vb from by rw [List.map_replicate] <;> rfl] at hS
 refine wpList_nil (hK1 _ _ ?_)
 refine reglS fun K2 hK2 => ?_
 refine eQ hF hS rfl (ef_alloc1 ty129 (by rfl)) ?_
 rintro _ _ _ a w ⟨b3, rfl, rfl, rfl⟩ hF hS
 refine wpList_nil (hK2 _ _ ?_)
 refine reglS fun K3 hK3 => ?_
 refine lQ hF hS (q0 (q_mkf rfl rfl) <| sq_end) fun a w hF hS => ?_
 refine eQ hF hS rfl (ef_store1 ty129 0 rfl rfl rfl rfl (by simp)) ?_
 rintro _ _ _ a w ⟨rfl, rfl, rfl⟩ hF hS
 (try simp only [sC] at hS)
 replace hS := nl0_3 hS
 refine wpList_nil (hK3 _ _ ?_)
 refine reglS fun K4 hK4 => ?_
 refine lQ hF hS (q0 (q_ld_blk1 ty129 0 rfl rfl rfl rfl) <| q0 (q_ld_blk1 ty33 2 rfl rfl rfl rfl) <| q0 (q_len_sl ty33 hb rfl) <| q0 (q_callv fn79 rfl rfl (by exact fun w hS => dig_all v ls _ _ hl hx _ _ ls.length 0 ls.length ls.length omQ omQ h1 (Nat.le_refl _) omQ w (own_box hS 2 rfl) (Sl.mono (hS.le zin0) hb) (own_box hS 0 rfl) (hS.ext _ _ hg1)) hI) <| sq_end) fun a w hF hS => ?_
 refine eQ hF hS rfl (ef_storeW ty29 1 rfl rfl rfl rfl bQ oQ bQ) ?_
 rintro _ _ _ a w ⟨rfl, rfl, rfl⟩ hF hS
 replace hS := nl0_3 hS
 refine wpList_nil (hK4 _ _ ?_)
 refine wp_ret ?_
 exact fn_ret (rs := [.cell 2 29]) rfl hF hS (vs := [_]) ⟨⟨_, _, _, _, _, _, _, rfl, List.mem_of_getElem? (i := 1) rfl, ty29, .inl ⟨rfl, bQ, rfl⟩⟩, trivial⟩ zQ zQ (by rw [show (0 : Int).toNat = 0 from rfl, Mk.sub_all])
theorem mroot_ct (v : Value) (ls : List Mk.Lf) (w : World) (hb : Sl encF (ph w) v ls) {fz1 : Nat × Nat} {bt1 : TypeId} (hg1 : w.heap[2]? = some (.cells (Sha.kc.map vw).toArray bt1 fz1)) : Ct Tryd.prog 12 [v] w (fun r _ _ => r = .tuple [.agg (((Mk.rootE ls).1).map vb).toArray, vi (Mk.rootE ls).2].toArray) := by
 refine fn_enter Tryd.func12 rfl Tryd.ntmps12 lB fun a hF hS => ?_
 have hbl := hb.1
 refine reglS fun K1 hK1 => ?_
 refine eQ hF hS rfl (ef_allocA ty29) ?_
 rintro _ _ _ a w ⟨b1, rfl, rfl, rfl⟩ hF hS
 rw [show List.replicate 16 (Value.int .u8 0) = (List.replicate 16 (0 : UInt8)).map vb from by rw [List.map_replicate] <;> rfl] at hS
 refine lQ hF hS (aQ rfl <| sq_end) fun a w hF hS => ?_
 refine wpList_nil (hK1 _ _ ?_)
 refine k0 ?_; intro K2 hK2
 refine regS hF hS (mQ rfl <| q0 (q_call fn15 rfl (fun w hS => valid_ct _ _ w (Sl.mono (hS.le zin0) hb)) hI) <| aQ rfl <| sq_end) fun a w hF hS => ?_
 refine regS hF hS (mQ rfl <| q0 (q_nei rfl rfl) <| sq_end) fun a w hF hS => ?_
 refine wp_ifn hF rfl (fun hc1 => ?_) (fun hc1 => ?_)
 ·refine k0 ?_; intro K5 hK5
  refine regl ?_
  refine lQ hF hS (q0 (q_build rfl (run_build_arr ty29 ty5 rfl)) <| mQ rfl <| sq_end) fun a w hF hS => ?_
  refine eQ hF hS rfl (ef_storeW ty29 0 rfl rfl rfl rfl bQ oQ bQ) ?_
  rintro _ _ _ a w ⟨rfl, rfl, rfl⟩ hF hS
  replace hS := nl0_1 hS
  refine lQ hF hS (aQ rfl <| sq_end) fun a w hF hS => ?_
  refine wpList_nil (hK5 _ _ ?_)
  refine wp_ret ?_
  exact fn_ret (rs := [.cell 2 29, .tmp 3]) rfl hF hS (vs := [_, _]) ⟨⟨_, _, _, _, _, _, _, rfl, List.mem_of_getElem? (i := 0) rfl, ty29, .inl ⟨rfl, bQ, rfl⟩⟩, rfl, trivial⟩ zQ zQ (by rw [Mk.rootE_e (by simpa using hc1)]; rfl)
 ·have hv0 : Mk.vE ls = 0 := by simpa using hc1
  have hva := Mk.vE_asc hv0
  have hx9 : ∀ x ∈ ls, x.1.length < 1048576 ∧ x.2.length < 1048576 := fun x hx => by have := hva.2.2 x hx; omega
  refine wp_skip ?_
  refine hK2 _ _ ?_
  refine k0 ?_; intro K6 hK6
  refine regS hF hS (mQ rfl <| q0 (q_len_sl ty33 hb rfl) <| q0 (q_eqi rfl rfl) <| sq_end) fun a w hF hS => ?_
  refine wp_ifd hF rfl (fun hc2 => ?_) (fun hc2 => ?_)
  ·have hr3 : ∀ n d, (Mk.rootD n d).length = 16 := Mk.rootD_16
   refine reglS fun K8 hK8 => ?_
   refine lQ hF hS (q0 (q_build rfl (run_build_arr ty29 ty5 rfl)) <| q0 (q_call fn50 rfl (fun w hS => root_ct _ (List.replicate 16 0) (by simp) omQ w (hS.ext _ _ hg1)) hI) <| sq_end) fun a w hF hS => ?_
   refine eQ hF hS rfl (ef_storeW ty29 0 rfl rfl rfl rfl bQ oQ bQ) ?_
   rintro _ _ _ a w ⟨rfl, rfl, rfl⟩ hF hS
   replace hS := nl0_1 hS
   refine lQ hF hS (aQ rfl <| sq_end) fun a w hF hS => ?_
   refine wpList_nil (hK8 _ _ ?_)
   refine wp_ret ?_
   exact fn_ret (rs := [.cell 2 29, .tmp 3]) rfl hF hS (vs := [_, _]) ⟨⟨_, _, _, _, _, _, _, rfl, List.mem_of_getElem? (i := 0) rfl, ty29, .inl ⟨rfl, bQ, rfl⟩⟩, rfl, trivial⟩ zQ zQ (by rw [Mk.rootE_0 hv0 omQ]; rfl)
  ·have hl1 : 1 ≤ ls.length := by omega
   have hr1 := Mk.rowD_16 hl1
   have hr2 := Mk.rootD_16 ls.length (Mk.rowD ls)
   refine wp_skip ?_
   refine hK6 _ _ ?_
   refine reglS fun K9 hK9 => ?_
   refine lQ hF hS (mQ rfl <| q0 (q_len_sl ty33 hb rfl) <| mQ rfl <| q0 (q_call fn51 rfl (fun w hS => digest_ct _ _ omQ hl1 hx9 w (Sl.mono (hS.le zin0) hb) (hS.ext _ _ hg1)) hI) <| q0 (q_call fn50 rfl (fun w hS => root_ct _ _ hr1 omQ w (hS.ext _ _ hg1)) hI) <| sq_end) fun a w hF hS => ?_
   refine eQ hF hS rfl (ef_storeW ty29 0 rfl rfl rfl rfl bQ oQ bQ) ?_
   rintro _ _ _ a w ⟨rfl, rfl, rfl⟩ hF hS
   replace hS := nl0_1 hS
   refine lQ hF hS (aQ rfl <| sq_end) fun a w hF hS => ?_
   refine wpList_nil (hK9 _ _ ?_)
   refine wp_ret ?_
   exact fn_ret (rs := [.cell 2 29, .tmp 3]) rfl hF hS (vs := [_, _]) ⟨⟨_, _, _, _, _, _, _, rfl, List.mem_of_getElem? (i := 0) rfl, ty29, .inl ⟨rfl, bQ, rfl⟩⟩, rfl, trivial⟩ zQ zQ (by rw [Mk.rootE_n hv0]; rfl)
end
section
theorem ty4 : Tf Tryd.prog 4 .bool 1 1 (Value.bool false) := ⟨Tryd.underlying4, by kernel_rfl⟩
theorem ty102 : Tf Tryd.prog 102 (.struct #[⟨ "Texts", 47, 0, false, "", "", 0⟩, ⟨ "Sides", 48, 1, false, "", "", 24⟩, ⟨ "Used", 3, 2, false, "", "", 48⟩, ⟨ "Short", 4, 3, false, "", "", 56⟩]) 4 64 (.agg ([Value.slice none 0 0, Value.slice none 0 0] ++ [Value.int .i64 0] ++ [Value.bool false]).toArray) := ⟨Tryd.underlying102, by kernel_rfl⟩
theorem fn84 : FnOk Tryd.prog 84 := fQ Tryd.func84
theorem fn85 : FnOk Tryd.prog 85 := fQ Tryd.func85
theorem fn86 : FnOk Tryd.prog 86 := fQ Tryd.func86
theorem fn106 : FnOk Tryd.prog 106 := fQ Tryd.func106
attribute [local irreducible] Sha.sum Sha.mac Sha.ofD Wi.int Wi.ints Wi.bytes Sha.inp Mk.half Lib.compareBytes
/-- What is made of a tree that is lent. -/
def TrR (e : Nat) (sv : Value) (σ : Mk.Dg × Mk.Tx × Nat × Bool) : Value → List PH → List Res → Prop := fun r zs hs => ∃ tv, r = .agg (σ.1.map vb).toArray ∧ zs = [] ∧ hs = [.blk e 102 [tv, sv, vi ((σ.2.2.1 : Nat) : Int), vt (σ.2.2.2)], .row tv 9 1 (σ.2.1).length ((σ.2.1).map vs)]
theorem tr_of {e : Nat} {sv : Value} {σ σ' : Mk.Dg × Mk.Tx × Nat × Bool} {r : Value} {zs : List PH} {hs : List Res} (h : TrR e sv σ r zs hs) (e1 : σ' = σ) : TrR e sv σ' r zs hs := e1 ▸ h
theorem zin_c {w0 : World} {zs : List PH} {z z' : PH} (h : ZIn w0 zs z) : ZIn w0 (z' :: zs) z := h.elim .inl fun h => .inr (List.mem_cons_of_mem _ h)
theorem tof_ct (e : Nat) (sv tv : Value) (T : Mk.Tx) (u : Nat) (s : Bool) (tag : Int) (v : Value) (ps : Mk.Tx) (hp : ∀ p ∈ ps, p.length < 1048576) (hl : ps.length < 1000) (hT : T.length < 4294967296) (fz0 : Nat × Nat) (bt0 : TypeId) (w0 : World) (zsr : List PH) (z : PH) (hv : Sl Go.Fw.encS z v ps) (hz : ZIn w0 zsr z) (hg0 : w0.heap[0]? = some (.cells (Sha.kc.map vw).toArray bt0 fz0)) : Cx Tryd.prog 86 [.pointer (some ⟨e, 0, none⟩), vi tag, v] w0 zsr [.blk e 102 [tv, sv, vi ((u : Nat) : Int), vt (s)], .row tv 9 1 (T).length ((T).map vs)] (TrR e sv (Sha.ofD tag ps, T ++ [Sha.inp tag ps], u, s)) := by
 refine fn_enterx Tryd.func86 rfl Tryd.ntmps86 lB fun hsr a w hF hS => ?_
 replace hS : St _ (_) (_ :: _ :: _) _ := hS
 have hil := Sha.inp_len tag ps hp
 have hsl := Sha.sum_len (Sha.inp tag ps)
 have hofl := Sha.ofD_len tag ps
 refine reglS fun K1 hK1 => ?_
 refine eQ hF hS rfl (ef_allocA ty29) ?_
 rintro _ _ _ a w ⟨b1, rfl, rfl, rfl⟩ hF hS
 rw [show List.replicate 16 (Value.int .u8 0) = (List.replicate 16 (0 : UInt8)).map vb from by rw [List.map_replicate] <;> rfl] at hS
 refine wpList_nil (hK1 _ _ ?_)
 refine reglS fun K2 hK2 => ?_
 refine lQ hF hS (mQ rfl <| mQ rfl <| sq_end) fun a w hF hS => ?_
 refine eQ hF hS rfl (ef_call fn65 rfl (fun w hS => rinput_ct _ _ _ (by first | with_reducible assumption | omega) (by first | with_reducible assumption | omega) w (Sl.mono (hS.le (by first | exact hz | exact zin_c hz | exact zin_c (zin_c hz) | exact zin_c (zin_c (zin_c hz)))) hv))) ?_
 rintro v2 _ _ a w ⟨_, _, rfl, rfl, ⟨z3, hz4, rfl, rfl⟩⟩ hF hS
 replace hS : St _ (_ :: _) (_ :: _ :: _ :: _) _ := hS
 refine lQ hF hS (aQ rfl <| sq_end) fun a w hF hS => ?_
 refine wpList_nil (hK2 _ _ ?_)
 refine k0 ?_; intro K3 hK3
 revert hS; revert hF; apply regJ (J := J2 (α0 := Value) (α1 := Value) 24 _ _ _ _ _) #[false, false, false, false, false, false, false, false, false, false, false, false] 12 mixed rfl rfl
 ·intro w hF hS
  refine tQ 0 rfl hF (hS.keep sQ (sN3)) (q_move rfl) fun a hF => ?_
  refine tQ 1 rfl hF (hS.keep sQ (sN3)) (q_move rfl) fun a hF => ?_
  refine tQ 2 rfl hF (hS.keep sQ (sN3)) (q_nilCheck rfl) fun a hF => ?_
  refine tQ 3 rfl hF (hS.keep sQ (sN3)) (q_fieldAddr ty102 rfl rfl (s' := 0) kQ) fun a hF => ?_
  refine tQ 4 rfl hF (hS.keep sQ (sN1.k.n)) (q_ld_blk1 ty47 0 rfl rfl rfl rfl) fun a hF => ?_
  refine tQ 5 rfl hF (hS.keep sQ (sN3)) (q_move rfl) fun a hF => ?_
  refine tQ 6 rfl hF (hS.keep sQ (sN3)) (q_b2s_sl ty39 ty9 ty5 hz4 (.inr (by simp)) rfl) fun a hF => ?_
  refine gQ 7 rfl rfl hF hS rfl (ef_bsliceA ty47 ty9 rfl rfl oQ deQ rfl rfl) ?_
  rintro v_2_7 _ _ a w ⟨rfl, rfl⟩ hF hS
  replace hS : St _ (_ :: _) (_ :: _ :: _ :: _ :: _) _ := hS
  refine ⟨⟨iQ, iQ, .inr (hS.keep sQ (sN1.k.n.n)), .inr (hS.keep sQ (sN4)), .inr (hS.keep sQ (sN4)), .inr (hS.keep sQ (sN4)), .inr (hS.keep sQ (sN4)), trivial⟩, ?_⟩
  refine gQ 8 rfl rfl hF hS rfl (ef_append ty47 ty9 3 rfl rfl rfl (src_row ty47 (k := 0) rfl oQ) bQ rfl deQ) ?_
  rintro v_2_8 _ _ a w ⟨rfl, rfl⟩ hF hS
  replace hS : St _ (_ :: _) (_ :: _ :: _ :: _ :: _) _ := hS
  refine ⟨⟨iQ, iQ, iQ, iQ, .inr (hS.keep sQ (sN4)), .inr (hS.keep sQ (sN4)), .inr (hS.keep sQ (sN4)), trivial⟩, ?_⟩
  refine tQ 9 rfl hF (hS.keep sQ (sN4)) (q_nilCheck rfl) fun a hF => ?_
  refine tQ 10 rfl hF (hS.keep sQ (sN4)) (q_fieldAddr ty102 rfl rfl (s' := 0) kQ) fun a hF => ?_
  refine gQ 11 rfl rfl hF hS rfl (ef_store1 ty47 2 rfl rfl rfl (row_one (hS.ow 3 rfl)) (by simp)) ?_
  rintro _ _ _ a w ⟨rfl, rfl, rfl⟩ hF hS
  replace hS : St _ (_ :: _) (_ :: _ :: .blk _ _ ([_, _, _, _].set 0 _) :: _ :: _) _ := hS
  simp only [sC] at hS
  replace hS : St _ (_ :: _) (_ :: _ :: _ :: _ :: _) _ := hS
  refine ⟨⟨iQ, iQ, iQ, iQ, iQ, iQ, iQ, iQ, iQ, trivial⟩, ?_⟩
  exact goW_done kQ (j2_mk v_2_7 v_2_8 (trivial) (hF.sub (L' := [(6, _), (7, _)]) ⟨rfl, rfl, trivial⟩) hS)
 rintro a w ⟨v_2_7, v_2_8, -, hF, hS⟩
 (try dsimp only at hF hS)
 refine hK3 _ _ ?_
 refine reglS fun K4 hK4 => ?_
 refine lQ hF hS (mQ rfl <| q0 (q_call fn64 rfl (fun w hS => rshort_ct _ _ (by first | with_reducible assumption | omega) w (Sl.mono (hS.le (.inr (by simp))) hz4) (hS.ext _ _ hg0)) hI) <| sq_end) fun a w hF hS => ?_
 refine eQ hF hS rfl (ef_storeW ty29 1 rfl rfl rfl rfl bQ oQ bQ) ?_
 rintro _ _ _ a w ⟨rfl, rfl, rfl⟩ hF hS
 replace hS : St _ (_ :: _) (_ :: _ :: _ :: _ :: _) _ := hS
 refine wpList_nil (hK4 _ _ ?_)
 refine wp_ret ?_
 replace hS := hS.perm P0_1
 replace hS := hS.perm (.cons _ (.cons _ (.swap _ _ _)))
 replace hS := hS.perm (.cons _ (.swap _ _ _))
 exact fn_retx (rs := [.cell 6 29]) rfl hF hS (vs := [_]) ⟨⟨_, _, _, _, _, _, _, rfl, List.mem_of_getElem? (i := 3) rfl, ty29, .inl ⟨rfl, bQ, rfl⟩⟩, trivial⟩ [] [_, _] (sN1) (sN2.k.k) (tr_of ⟨v_2_8, by rw [← Sha.ofD_ref], rfl, by rw [List.length_append, List.map_append]; rfl⟩ rfl)
theorem row_step (e : Nat) (sv v : Value) (ls : List Mk.Lf) (first : Nat) (sd : List Mk.Dg) (hl : ls.length < 1048576) (hx : ∀ x ∈ ls, x.1.length < 1048576 ∧ x.2.length < 1048576) (h16 : ∀ d ∈ sd, d.length = 16) (hf9 : first ≤ 1048576) (fz0 : Nat × Nat) (bt0 : TypeId) (w0 : World) (zsr : List PH) (hb : Sl encF (ph w0) v ls) (hsd : Sl (encA 16) (ph w0) sv sd) (hg0 : w0.heap[0]? = some (.cells (Sha.kc.map vw).toArray bt0 fz0)) (f : Nat) (ih : ∀ (lo hi : Int) (p0 n : Nat) (tv : Value) (T : Mk.Tx) (u : Nat) (s : Bool) (hp : lo = p0) (hh : hi = p0 + n) (hn1 : 1 ≤ n) (hnf : n ≤ f) (hp9 : p0 + n ≤ 1048576) (hT9 : T.length + 2 * n ≤ 100000000) (hu9 : u + n ≤ 100000000), Cx Tryd.prog 85 [.pointer (some ⟨e, 0, none⟩), v, vi (first : Int), vi lo, vi hi] w0 zsr [.blk e 102 [tv, sv, vi ((u : Nat) : Int), vt (s)], .row tv 9 1 (T).length ((T).map vs)] (TrR e sv (Mk.rr first ls sd f n p0 T u s))) (lo hi : Int) (p0 n : Nat) (tv : Value) (T : Mk.Tx) (u : Nat) (s : Bool) (hp : lo = p0) (hh : hi = p0 + n) (hn1 : 1 ≤ n) (hnf : n ≤ f + 1) (hp9 : p0 + n ≤ 1048576) (hT9 : T.length + 2 * n ≤ 100000000) (hu9 : u + n ≤ 100000000) : Cx Tryd.prog 85 [.pointer (some ⟨e, 0, none⟩), v, vi (first : Int), vi lo, vi hi] w0 zsr [.blk e 102 [tv, sv, vi ((u : Nat) : Int), vt (s)], .row tv 9 1 (T).length ((T).map vs)] (TrR e sv (Mk.rr first ls sd (f + 1) n p0 T u s)) := by
 refine fn_enterx Tryd.func85 rfl Tryd.ntmps85 lB fun hsr a w hF hS => ?_
 replace hS : St _ (_) (_ :: _ :: _) _ := hS
 have hbl := hb.1
 have hsl := hsd.1
 have hsl2 : sd.length ≤ 140737488355328 := hsl
 refine reglS fun K1 hK1 => ?_
 refine eQ hF hS rfl (ef_allocA ty29) ?_
 rintro _ _ _ a w ⟨b1, rfl, rfl, rfl⟩ hF hS
 rw [show List.replicate 16 (Value.int .u8 0) = (List.replicate 16 (0 : UInt8)).map vb from by rw [List.map_replicate] <;> rfl] at hS
 refine wpList_nil (hK1 _ _ ?_)
 refine k0 ?_; intro K2 hK2
 refine reglS fun K3 hK3 => ?_
 refine lQ hF hS (mQ rfl <| mQ rfl <| q0 (q_lei rfl rfl) <| mQ rfl <| sq_end) fun a w hF hS => ?_
 refine wpl_or 3 17 6 hF hS rfl rfl rfl rfl rfl (fun hg => have hg := (by first | exact of_decide_eq_false hg | exact hg); sq_go 17 rfl rfl rfl (q_move rfl) <| sq_go 17 rfl rfl rfl (q_move rfl) <| sq_go 17 rfl rfl rfl (q_move rfl) <| sq_go 17 rfl rfl rfl (q_len_sl ty24 hb rfl) <| sq_go 17 rfl rfl rfl (q_addi rfl rfl omQ) <| sq_go 17 rfl rfl rfl (q_gei rfl rfl) <| sq_end) rfl rfl fun a w hF hS => ?_
 refine wpList_nil (hK3 _ _ ?_)
 refine wp_if hF rfl (fun hc1 => ?_) (fun hc1 => ?_)
 ·(try simp only [bS] at hc1)
  have ho : p0 + n ≤ first ∨ first + ls.length ≤ p0 := by omega
  refine k0 ?_; intro K4 hK4
  refine regdS mixed kQ hF hS (mQ rfl <| q0 (q_nilCheck rfl) <| q0 (q_fieldAddr ty102 rfl rfl (s' := 0) kQ) <| q0 (q_ld_blk1 ty3 1 rfl rfl rfl rfl) <| mQ rfl <| q0 (q_nilCheck rfl) <| q0 (q_fieldAddr ty102 rfl rfl (s' := 0) kQ) <| q0 (q_ld_blk1 ty48 1 rfl rfl rfl rfl) <| q0 (q_len_sl ty48 hsd rfl) <| q0 (q_gei rfl rfl) <| sq_end) fun a w hF hS => ?_
  refine wp_ifd hF rfl (fun hc2 => ?_) (fun hc2 => ?_)
  ·have hq : sd.length ≤ u := by omega
   refine reglS fun K6 hK6 => ?_
   refine lQ hF hS (mQ rfl <| q0 (q_nilCheck rfl) <| q0 (q_fieldAddr ty102 rfl rfl (s' := 0) kQ) <| sq_end) fun a w hF hS => ?_
   refine eQ hF hS rfl (ef_store1 ty4 1 rfl rfl rfl rfl (by simp)) ?_
   rintro _ _ _ a w ⟨rfl, rfl, rfl⟩ hF hS
   replace hS : St _ (_) (_ :: .blk _ _ ([_, _, _, _].set 3 _) :: _ :: _) _ := hS
   simp only [sC] at hS
   replace hS : St _ (_) (_ :: _ :: _ :: _) _ := hS
   refine wpList_nil (hK6 _ _ ?_)
   refine reglS fun K7 hK7 => ?_
   refine lQ hF hS (q0 (q_build rfl (run_build_arr ty29 ty5 rfl)) <| sq_end) fun a w hF hS => ?_
   refine eQ hF hS rfl (ef_storeW ty29 0 rfl rfl rfl rfl bQ oQ bQ) ?_
   rintro _ _ _ a w ⟨rfl, rfl, rfl⟩ hF hS
   replace hS : St _ (_) (_ :: _ :: _ :: _) _ := hS
   refine wpList_nil (hK7 _ _ ?_)
   refine wp_ret ?_
   replace hS := hS.perm (.swap _ _ _)
   replace hS := hS.perm (.cons _ (.swap _ _ _))
   exact fn_retx (rs := [.cell 10 29]) rfl hF hS (vs := [_]) ⟨⟨_, _, _, _, _, _, _, rfl, List.mem_of_getElem? (i := 2) rfl, ty29, .inl ⟨rfl, bQ, rfl⟩⟩, trivial⟩ [] [_, _] sQ (sN1.k.k) (tr_of (σ := (Mk.zD, T, u, true)) ⟨tv, rfl, rfl, rfl⟩ (Mk.rr_short ho hq))
  ·have hq : ¬ sd.length ≤ u := by omega
   have hd16 := h16 (sd.getD u []) (Mk.getD_inD omQ)
   have hue : ((u : Int) + 1 - 1).toNat = u := by omega
   have hd17 : (sd.getD ((u : Int) + 1 - 1).toNat []).length = 16 := by rw [hue]; exact hd16
   refine wp_skip ?_
   refine hK4 _ _ ?_
   refine reglS fun K8 hK8 => ?_
   refine lQ hF hS (mQ rfl <| mQ rfl <| q0 (q_nilCheck rfl) <| q0 (q_fieldAddr ty102 rfl rfl (s' := 0) kQ) <| q0 (q_ld_blk1 ty3 1 rfl rfl rfl rfl) <| pQ rfl rfl <| q0 (q_nilCheck rfl) <| q0 (q_fieldAddr ty102 rfl rfl (s' := 0) kQ) <| sq_end) fun a w hF hS => ?_
   refine eQ hF hS rfl (ef_store1 ty3 1 rfl rfl rfl rfl (by simp)) ?_
   rintro _ _ _ a w ⟨rfl, rfl, rfl⟩ hF hS
   replace hS : St _ (_) (_ :: .blk _ _ ([_, _, _, _].set 2 _) :: _ :: _) _ := hS
   simp only [sC] at hS
   replace hS : St _ (_) (_ :: _ :: _ :: _) _ := hS
   refine wpList_nil (hK8 _ _ ?_)
   refine k0 ?_; intro K9 hK9
   refine regt 11 mixed kQ hF hS (mQ rfl <| q0 (q_nilCheck rfl) <| q0 (q_fieldAddr ty102 rfl rfl (s' := 0) kQ) <| q0 (q_ld_blk1 ty48 1 rfl rfl rfl rfl) <| mQ rfl <| q0 (q_nilCheck rfl) <| q0 (q_fieldAddr ty102 rfl rfl (s' := 0) kQ) <| q0 (q_ld_blk1 ty3 1 rfl rfl rfl rfl) <| dQ rfl rfl <| q0 (q_idx_sl ty48 ty29 hsd rfl rfl omQ) <| q0 (q_ld_AB ty29 hsd zin0 rfl rfl deQ omQ) <| sq_end) fun a w hF hS => ?_
   refine eQ hF hS rfl (ef_storeW ty29 0 rfl rfl rfl rfl bQ oQ bQ) ?_
   rintro _ _ _ a w ⟨rfl, rfl, rfl⟩ hF hS
   replace hS : St _ (_) (_ :: _ :: _ :: _) _ := hS
   refine wpList_nil (hK9 _ _ ?_)
   refine wp_ret ?_
   replace hS := hS.perm (.swap _ _ _)
   replace hS := hS.perm (.cons _ (.swap _ _ _))
   exact fn_retx (rs := [.cell 10 29]) rfl hF hS (vs := [_]) ⟨⟨_, _, _, _, _, _, _, rfl, List.mem_of_getElem? (i := 2) rfl, ty29, .inl ⟨rfl, bQ, rfl⟩⟩, trivial⟩ [] [_, _] sQ (sN1.k.k) (tr_of (σ := (sd.getD u [], T, u + 1, s)) ⟨tv, by rw [hue], rfl, rfl⟩ (Mk.rr_side ho hq))
 ·(try simp only [bS] at hc1)
  have ho : ¬ (p0 + n ≤ first ∨ first + ls.length ≤ p0) := by omega
  refine wp_skip ?_
  refine hK2 _ _ ?_
  refine k0 ?_; intro K10 hK10
  refine regS hF hS (mQ rfl <| mQ rfl <| dQ rfl rfl <| q0 (q_eqi rfl rfl) <| sq_end) fun a w hF hS => ?_
  refine wp_ifd hF rfl (fun hc3 => ?_) (fun hc3 => ?_)
  ·have hle : (lo - (first : Int)).toNat = p0 - first := by omega
   have hn3 : n = 1 := by omega
   have hxa := hx (ls.getD (lo - first).toNat kv0) (Mk.getD_in omQ)
   have ho16 := Sha.ofD_len 3 [(ls.getD (lo - first).toNat kv0).1, (ls.getD (lo - first).toNat kv0).2]
   refine k0 ?_; intro K12 hK12
   revert hS; revert hF; apply regJ (J := J3 (α0 := Value) (α1 := PH) (α2 := Value) 104 _ _ _ _ _) #[false, false, false, false, false, false, false, false, false, false, false, false, false, false, false, false, false, false] 18 mixed rfl rfl
   ·intro w hF hS
    refine tQ 0 rfl hF (hS.keep sQ (sN3)) (q_move rfl) fun a hF => ?_
    refine tQ 1 rfl hF (hS.keep sQ (sN3)) (q_move rfl) fun a hF => ?_
    refine tQ 2 rfl hF (hS.keep sQ (sN3)) (q_move rfl) fun a hF => ?_
    refine tQ 3 rfl hF (hS.keep sQ (sN3)) (q_move rfl) fun a hF => ?_
    refine tQ 4 rfl hF (hS.keep sQ (sN3)) (q_subi rfl rfl omQ) fun a hF => ?_
    refine tQ 5 rfl hF (hS.keep sQ (sN3)) (q_idx_sl ty24 ty75 hb rfl rfl omQ) fun a hF => ?_
    refine tQ 6 rfl hF (hS.keep sQ (sN3)) (q_fld_F ty75 hb rfl omQ rfl (s' := 0) kQ) fun a hF => ?_
    refine tQ 7 rfl hF (hS.keep sQ (sN3)) (q_ld_FK ty9 hb zin0 rfl rfl omQ) fun a hF => ?_
    refine tQ 8 rfl hF (hS.keep sQ (sN3)) (q_move rfl) fun a hF => ?_
    refine tQ 9 rfl hF (hS.keep sQ (sN3)) (q_move rfl) fun a hF => ?_
    refine tQ 10 rfl hF (hS.keep sQ (sN3)) (q_move rfl) fun a hF => ?_
    refine tQ 11 rfl hF (hS.keep sQ (sN3)) (q_subi rfl rfl omQ) fun a hF => ?_
    refine tQ 12 rfl hF (hS.keep sQ (sN3)) (q_idx_sl ty24 ty75 hb rfl rfl omQ) fun a hF => ?_
    refine tQ 13 rfl hF (hS.keep sQ (sN3)) (q_fld_F ty75 hb rfl omQ rfl (s' := 0) kQ) fun a hF => ?_
    refine tQ 14 rfl hF (hS.keep sQ (sN3)) (q_ld_FV ty9 hb zin0 rfl rfl omQ) fun a hF => ?_
    refine gQ 15 rfl rfl hF hS rfl (ef_bsliceA ty47 ty9 rfl rfl oQ deQ rfl rfl) ?_
    rintro v_8_15 _ _ a w ⟨rfl, rfl⟩ hF hS
    replace hS : St _ (_) (_ :: _ :: _ :: _ :: _) _ := hS
    refine ⟨⟨iQ, iQ, .inr (hS.keep sQ (sN4)), .inr (hS.keep sQ (sN4)), .inr (hS.keep sQ (sN4)), .inr (hS.keep sQ (sN4)), .inr (hS.keep sQ (sN4)), iQ, iQ, .inr (hS.keep sQ (sN4)), .inr (hS.keep sQ (sN4)), .inr (hS.keep sQ (sN4)), .inr (hS.keep sQ (sN4)), .inr (hS.keep sQ (sN4)), .inr (hS.keep sQ (sN4)), trivial⟩, ?_⟩
    refine goW_fork [16] kQ rfl ⟨?_, trivial⟩
    obtain ⟨z_8_16, hz_8_16, hS⟩ := St.freezeV (h0 := fun _ => rfl) (f := vs) (p := fun s => s.length ≤ 140737488355328) (xs := [(ls.getD (lo - first).toNat kv0).1, (ls.getD (lo - first).toNat kv0).2]) hS (by first | rfl | (simp; done)) (by first | decide | omega | (simp; omega)) (Mk.two_le omQ omQ)
    replace hS := hS.perm (.swap _ _ _)
    replace hS := hS.perm (.cons _ (.swap _ _ _))
    replace hS : St _ (_ :: _) (_ :: _ :: _ :: _) _ := hS
    refine stepW_ef _ rfl rfl hF hS rfl (ef_callxN 2 fn86 rfl (by exact (tof_ct _ _ _ T u s _ _ [(ls.getD (lo - first).toNat kv0).1, (ls.getD (lo - first).toNat kv0).2] (Mk.two_lt hxa.1 hxa.2) (by simp) omQ _ _ _ _ _ hz_8_16 (.inr (by simp)) hg0))) ?_
    rintro _ _ _ a w ⟨_, _, rfl, rfl, ⟨p_8_16, rfl, rfl, rfl⟩⟩ hF hS
    replace hS : St _ (_ :: _) (_ :: _ :: _ :: _) _ := hS
    refine ⟨⟨iQ, iQ, .inr (hS.keep (sN1) (sN3)), .inr (hS.keep (sN1) (sN3)), .inr (hS.keep (sN1) (sN3)), .inr (hS.keep (sN1) (sN3)), .inr (hS.keep (sN1) (sN3)), iQ, iQ, .inr (hS.keep (sN1) (sN3)), .inr (hS.keep (sN1) (sN3)), .inr (hS.keep (sN1) (sN3)), .inr (hS.keep (sN1) (sN3)), .inr (hS.keep (sN1) (sN3)), iQ, trivial⟩, ?_⟩
    refine gQ 17 rfl rfl hF hS rfl (ef_storeW ty29 2 rfl rfl rfl rfl bQ oQ bQ) ?_
    rintro _ _ _ a w ⟨rfl, rfl, rfl⟩ hF hS
    replace hS : St _ (_ :: _) (_ :: _ :: _ :: _) _ := hS
    refine ⟨⟨iQ, iQ, iQ, iQ, iQ, iQ, iQ, iQ, iQ, iQ, iQ, iQ, iQ, iQ, iQ, trivial⟩, ?_⟩
    exact goW_done kQ (j3_mk v_8_15 z_8_16 p_8_16 ((And.intro hz_8_16 trivial)) (hF.sub (L' := [(10, _)]) ⟨rfl, trivial⟩) hS)
   rintro a w ⟨v_8_15, z_8_16, p_8_16, ⟨hz_8_16, -⟩, hF, hS⟩
   (try dsimp only at hF hS)
   refine hK12 _ _ ?_
   refine wp_ret ?_
   exact fn_retx (rs := [.cell 10 29]) rfl hF hS (vs := [_]) ⟨⟨_, _, _, _, _, _, _, rfl, List.mem_of_getElem? (i := 2) rfl, ty29, .inl ⟨rfl, bQ, rfl⟩⟩, trivial⟩ [] [_, _] (sN1) (sN1.k.k) (tr_of (σ := (Sha.ofD 3 [(ls.getD (lo - first).toNat kv0).1, (ls.getD (lo - first).toNat kv0).2], T ++ [Sha.inp 3 [(ls.getD (lo - first).toNat kv0).1, (ls.getD (lo - first).toNat kv0).2]], u, s)) ⟨_, rfl, rfl, rfl⟩ (by rw [Mk.rr_leaf ho hn3, ← hle]; rfl))
  ·have hn2 : 2 ≤ n := by omega
   have hhp := Mk.half_pos n
   have hhl := Mk.half_lt hn2
   have hbd := Mk.rr_bd h16 (lv := ls) (first := first) f (Mk.half n) p0 T u s hhp omQ
   obtain ⟨hr16, hrT, hru, _⟩ := hbd
   refine wp_skip ?_
   refine hK10 _ _ ?_
   refine regS hF hS (mQ rfl <| mQ rfl <| mQ rfl <| dQ rfl rfl <| q0 (q_call fn106 rfl (fun w hS => half_ct _ n omQ omQ omQ w ) hI) <| pQ rfl rfl <| aQ rfl <| sq_end) fun a w hF hS => ?_
   refine reglS fun K14 hK14 => ?_
   refine lQ hF hS (mQ rfl <| mQ rfl <| mQ rfl <| mQ rfl <| mQ rfl <| sq_end) fun a w hF hS => ?_
   replace hS := hS.perm (.swap _ _ _)
   replace hS := hS.perm (.cons _ (.swap _ _ _))
   replace hS : St _ (_) (_ :: _ :: _ :: _) _ := hS
   refine eQ hF hS rfl (ef_callxN 2 fn85 rfl (by exact (ih _ _ p0 (Mk.half n) _ T u s  omQ omQ omQ omQ omQ omQ omQ ))) ?_
   rintro _ _ _ a w ⟨_, _, rfl, rfl, ⟨tv1, rfl, rfl, rfl⟩⟩ hF hS
   replace hS : St _ (_) (_ :: _ :: _ :: _) _ := hS
   refine eQ hF hS rfl (ef_allocA ty29) ?_
   rintro _ _ _ a w ⟨b3, rfl, rfl, rfl⟩ hF hS
   rw [show List.replicate 16 (Value.int .u8 0) = (List.replicate 16 (0 : UInt8)).map vb from by rw [List.map_replicate] <;> rfl] at hS
   refine eQ hF hS rfl (ef_storeW ty29 0 rfl rfl rfl rfl bQ oQ bQ) ?_
   rintro _ _ _ a w ⟨rfl, rfl, rfl⟩ hF hS
   replace hS : St _ (_) (_ :: _ :: _ :: _ :: _) _ := hS
   refine wpList_nil ?_
   obtain ⟨r1, hr1⟩ : ∃ r, r = (Mk.rr first ls sd f (Mk.half n) p0 T u s) := ⟨_, rfl⟩
   rw [← hr1] at hr16 hrT hru hS
   have hbd2 := Mk.rr_bd h16 (lv := ls) (first := first) f (n - Mk.half n) (p0 + Mk.half n) r1.2.1 r1.2.2.1 r1.2.2.2 omQ omQ
   obtain ⟨hs16, hsT, hsu, _⟩ := hbd2
   refine hK14 _ _ ?_
   refine reglS fun K15 hK15 => ?_
   refine lQ hF hS (mQ rfl <| mQ rfl <| mQ rfl <| mQ rfl <| mQ rfl <| sq_end) fun a w hF hS => ?_
   replace hS := hS.perm (.swap _ _ _)
   replace hS := hS.perm (.cons _ (.swap _ _ _))
   replace hS : St _ (_) (_ :: _ :: _ :: _ :: _) _ := hS
   refine eQ hF hS rfl (ef_callxN 2 fn85 rfl (by exact (ih _ _ (p0 + Mk.half n) (n - Mk.half n) _ r1.2.1 r1.2.2.1 r1.2.2.2  omQ omQ omQ omQ omQ omQ omQ ))) ?_
   rintro _ _ _ a w ⟨_, _, rfl, rfl, ⟨tv2, rfl, rfl, rfl⟩⟩ hF hS
   replace hS : St _ (_) (_ :: _ :: _ :: _ :: _) _ := hS
   refine eQ hF hS rfl (ef_allocA ty29) ?_
   rintro _ _ _ a w ⟨b5, rfl, rfl, rfl⟩ hF hS
   rw [show List.replicate 16 (Value.int .u8 0) = (List.replicate 16 (0 : UInt8)).map vb from by rw [List.map_replicate] <;> rfl] at hS
   refine eQ hF hS rfl (ef_storeW ty29 0 rfl rfl rfl rfl bQ oQ bQ) ?_
   rintro _ _ _ a w ⟨rfl, rfl, rfl⟩ hF hS
   replace hS : St _ (_) (_ :: _ :: _ :: _ :: _ :: _) _ := hS
   refine wpList_nil ?_
   obtain ⟨r2, hr2⟩ : ∃ r, r = Mk.rr first ls sd f (n - Mk.half n) (p0 + Mk.half n) r1.2.1 r1.2.2.1 r1.2.2.2 := ⟨_, rfl⟩
   rw [← hr2] at hs16 hsT hsu hS
   have ho16 := Sha.ofD_len 4 [r1.1, r2.1]
   refine hK15 _ _ ?_
   refine k0 ?_; intro K16 hK16
   revert hS; revert hF; apply regJ (J := J3 (α0 := Value) (α1 := PH) (α2 := Value) 104 _ _ _ _ _) #[false, false, false, false, false, false, false, false] 8 mixed rfl rfl
   ·intro w hF hS
    refine tQ 0 rfl hF (hS.keep sQ (sQ.n.n.n.n.n)) (q_move rfl) fun a hF => ?_
    refine tQ 1 rfl hF (hS.keep sQ (sN1.k.n.n.n)) (q_ld_blkW ty29 0 rfl rfl bQ rfl) fun a hF => ?_
    refine tQ 3 rfl hF (hS.keep sQ (sN4.k)) (q_ld_blkW ty29 0 rfl rfl bQ rfl) fun a hF => ?_
    refine gQ 2 rfl rfl hF hS rfl (ef_qt (q_call fn84 rfl (fun w hS => rtext_ct _ (by first | with_reducible assumption | omega | (simp; omega)) w ) hI)) ?_
    rintro _ _ _ a w ⟨rfl, rfl, rfl⟩ hF hS
    refine ⟨⟨.inr (hS.keep sQ (sN4.k)), iQ, .inr (hS.keep sQ (sQ.n.n.n.n.n)), trivial⟩, ?_⟩
    refine gQ 4 rfl rfl hF hS rfl (ef_qt (q_call fn84 rfl (fun w hS => rtext_ct _ (by first | with_reducible assumption | omega | (simp; omega)) w ) hI)) ?_
    rintro _ _ _ a w ⟨rfl, rfl, rfl⟩ hF hS
    refine ⟨⟨iQ, iQ, .inr (hS.keep sQ (sQ.n.n.n.n.n)), trivial⟩, ?_⟩
    refine gQ 5 rfl rfl hF hS rfl (ef_bsliceA ty47 ty9 rfl rfl oQ deQ rfl rfl) ?_
    rintro v_12_5 _ _ a w ⟨rfl, rfl⟩ hF hS
    replace hS := nt0_6 hS
    refine ⟨⟨iQ, iQ, .inr (hS.keep sQ (sN6)), trivial⟩, ?_⟩
    refine goW_fork [6] kQ rfl ⟨?_, trivial⟩
    obtain ⟨z_12_6, hz_12_6, hS⟩ := St.freezeV (h0 := fun _ => rfl) (f := vs) (p := fun s => s.length ≤ 140737488355328) (xs := [r1.1, r2.1]) hS (by first | rfl | (simp; done)) (by first | decide | omega | (simp; omega)) (Mk.two_le omQ omQ)
    replace hS := hS.perm (.swap _ _ _)
    replace hS := hS.perm (.cons _ (.swap _ _ _))
    replace hS : St _ (_ :: _) (_ :: _ :: _ :: _ :: _ :: _) _ := hS
    refine stepW_ef _ rfl rfl hF hS rfl (ef_callxN 2 fn86 rfl (by exact (tof_ct _ _ _ r2.2.1 r2.2.2.1 r2.2.2.2 _ _ [r1.1, r2.1] (Mk.two_lt omQ omQ) (by simp) omQ _ _ _ _ _ hz_12_6 (.inr (by simp)) hg0))) ?_
    rintro _ _ _ a w ⟨_, _, rfl, rfl, ⟨p_12_6, rfl, rfl, rfl⟩⟩ hF hS
    replace hS : St _ (_ :: _) (_ :: _ :: _ :: _ :: _ :: _) _ := hS
    refine ⟨⟨iQ, iQ, iQ, trivial⟩, ?_⟩
    refine gQ 7 rfl rfl hF hS rfl (ef_storeW ty29 4 rfl rfl rfl rfl bQ oQ bQ) ?_
    rintro _ _ _ a w ⟨rfl, rfl, rfl⟩ hF hS
    replace hS : St _ (_ :: _) (_ :: _ :: _ :: _ :: _ :: _) _ := hS
    refine ⟨⟨iQ, iQ, iQ, trivial⟩, ?_⟩
    exact goW_done kQ (j3_mk v_12_5 z_12_6 p_12_6 ((And.intro hz_12_6 trivial)) (hF.sub (L' := [(10, _)]) ⟨rfl, trivial⟩) hS)
   rintro a w ⟨v_12_5, z_12_6, p_12_6, ⟨hz_12_6, -⟩, hF, hS⟩
   (try dsimp only at hF hS)
   refine hK16 _ _ ?_
   refine wp_ret ?_
   exact fn_retx (rs := [.cell 10 29]) rfl hF hS (vs := [_]) ⟨⟨_, _, _, _, _, _, _, rfl, List.mem_of_getElem? (i := 4) rfl, ty29, .inl ⟨rfl, bQ, rfl⟩⟩, trivial⟩ [] [_, _] (sN1) (sN3.k.k) (tr_of (σ := (Sha.ofD 4 [r1.1, r2.1], r2.2.1 ++ [Sha.inp 4 [r1.1, r2.1]], r2.2.2.1, r2.2.2.2)) ⟨_, rfl, rfl, rfl⟩ (by rw [Mk.rr_node ho hn2 hr1 hr2]; rfl))
theorem row_ct (e : Nat) (sv v : Value) (ls : List Mk.Lf) (first : Nat) (sd : List Mk.Dg) (hl : ls.length < 1048576) (hx : ∀ x ∈ ls, x.1.length < 1048576 ∧ x.2.length < 1048576) (h16 : ∀ d ∈ sd, d.length = 16) (hf9 : first ≤ 1048576) (fz0 : Nat × Nat) (bt0 : TypeId) (w0 : World) (zsr : List PH) (hb : Sl encF (ph w0) v ls) (hsd : Sl (encA 16) (ph w0) sv sd) (hg0 : w0.heap[0]? = some (.cells (Sha.kc.map vw).toArray bt0 fz0)) : ∀ (f : Nat) (lo hi : Int) (p0 n : Nat) (tv : Value) (T : Mk.Tx) (u : Nat) (s : Bool) (hp : lo = p0) (hh : hi = p0 + n) (hn1 : 1 ≤ n) (hnf : n ≤ f) (hp9 : p0 + n ≤ 1048576) (hT9 : T.length + 2 * n ≤ 100000000) (hu9 : u + n ≤ 100000000), Cx Tryd.prog 85 [.pointer (some ⟨e, 0, none⟩), v, vi (first : Int), vi lo, vi hi] w0 zsr [.blk e 102 [tv, sv, vi ((u : Nat) : Int), vt (s)], .row tv 9 1 (T).length ((T).map vs)] (TrR e sv (Mk.rr first ls sd f n p0 T u s)) := by
 intro f
 induction f with
 | zero => intro lo hi p0 n tv T u s hp hh hn1 hnf; omega
 | succ f ih => exact fun lo hi p0 n tv T u s hp hh hn1 hnf hp9 hT9 hu9 => row_step e sv v ls first sd hl hx h16 hf9 fz0 bt0 w0 zsr hb hsd hg0 f ih lo hi p0 n tv T u s hp hh hn1 hnf hp9 hT9 hu9
end
section
theorem ty54 : Tf Tryd.prog 54 (.struct #[⟨ "First", 3, 0, false, "", "", 0⟩, ⟨ "Size", 3, 1, false, "", "", 8⟩, ⟨ "Leaves", 24, 2, false, "", "", 16⟩, ⟨ "Sides", 48, 3, false, "", "", 40⟩]) 4 64 (.agg ([Value.int .i64 0, Value.int .i64 0] ++ [Value.slice none 0 0, Value.slice none 0 0]).toArray) := ⟨Tryd.underlying54, by kernel_rfl⟩
theorem fn16 : FnOk Tryd.prog 16 := fQ Tryd.func16
theorem fn92 : FnOk Tryd.prog 92 := fQ Tryd.func92
attribute [local irreducible] Sha.sum Sha.mac Sha.ofD Wi.int Wi.ints Wi.bytes Sha.inp Mk.half Lib.compareBytes
theorem rsides_step (v : Value) (ls : List Mk.Lf) (first en : Nat) (hl : ls.length < 1048576) (hx : ∀ x ∈ ls, x.1.length < 1048576 ∧ x.2.length < 1048576) (hf9 : first ≤ 1048576) (he9 : en ≤ 1048576) (fz0 : Nat × Nat) (bt0 : TypeId) (f : Nat) (ih : ∀ (lo hi : Int) (p0 n : Nat) (hp : lo = p0) (hh : hi = p0 + n) (hn1 : 1 ≤ n) (hnf : n ≤ f) (han : p0 + n ≤ ls.length) (w : World) (hb : Sl encF (ph w) v ls) (hg0 : w.heap[0]? = some (.cells (Sha.kc.map vw).toArray bt0 fz0)), Ct Tryd.prog 92 [v, vi (first : Int), vi (en : Int), vi lo, vi hi] w (fun r zs hs => zs = [] ∧ hs = [.row r 29 16 ((Mk.sidesD first en (Mk.sub ls p0 n) p0)).length (((Mk.sidesD first en (Mk.sub ls p0 n) p0)).flatten.map vb)])) (lo hi : Int) (p0 n : Nat) (hp : lo = p0) (hh : hi = p0 + n) (hn1 : 1 ≤ n) (hnf : n ≤ f + 1) (han : p0 + n ≤ ls.length) (w : World) (hb : Sl encF (ph w) v ls) (hg0 : w.heap[0]? = some (.cells (Sha.kc.map vw).toArray bt0 fz0)) : Ct Tryd.prog 92 [v, vi (first : Int), vi (en : Int), vi lo, vi hi] w (fun r zs hs => zs = [] ∧ hs = [.row r 29 16 ((Mk.sidesD first en (Mk.sub ls p0 n) p0)).length (((Mk.sidesD first en (Mk.sub ls p0 n) p0)).flatten.map vb)]) := by
 refine fn_enter Tryd.func92 rfl Tryd.ntmps92 lB fun a hF hS => ?_
 have hbl := hb.1
 have hr1 := Mk.rowD_16 (ls := Mk.sub ls p0 n) (by rw [Mk.sub_len omQ]; omega)
 refine regS hF hS (aQ rfl <| sq_end) fun a w hF hS => ?_
 refine k0 ?_; intro K2 hK2
 refine reglS fun K3 hK3 => ?_
 refine lQ hF hS (mQ rfl <| mQ rfl <| q0 (q_lei rfl rfl) <| mQ rfl <| sq_end) fun a w hF hS => ?_
 refine wpl_or 3 16 3 hF hS rfl rfl rfl rfl rfl (fun hg => have hg := (by first | exact of_decide_eq_false hg | exact hg); sq_go 16 rfl rfl rfl (q_move rfl) <| sq_go 16 rfl rfl rfl (q_move rfl) <| sq_go 16 rfl rfl rfl (q_gei rfl rfl) <| sq_end) rfl rfl fun a w hF hS => ?_
 refine wpList_nil (hK3 _ _ ?_)
 refine wp_if hF rfl (fun hc1 => ?_) (fun hc1 => ?_)
 ·(try simp only [bS] at hc1)
  have ho : p0 + n ≤ first ∨ en ≤ p0 := by omega
  have hD : (Mk.sidesD first en (Mk.sub ls p0 n) p0) = [Mk.rowD (Mk.sub ls p0 n)] := Mk.sides_out' hn1 omQ ho
  have hrf := (Mk.rr_full (ls := ls) (sd := []) n n p0 [] 0 false hn1 (Nat.le_refl _) omQ).1
  refine reglS fun K4 hK4 => ?_
  refine lQ hF hS (q0 (q_buildP (places := [(0, 1), (1, 1), (2, 1), (3, 1)]) (cells := [.slice none 0 0, .slice none 0 0, .int .i64 0, .bool false]) ty102 kQ rfl (by rfl)) <| sq_end) fun a w hF hS => ?_
  refine eQ hF hS rfl (ef_boxA rfl) ?_
  rintro _ _ _ a w ⟨b1, rfl, rfl, rfl⟩ hF hS
  refine lQ hF hS (aQ rfl <| sq_end) fun a w hF hS => ?_
  refine wpList_nil ?_
  replace hS := hS.nilRow 9 1
  refine hK4 _ _ ?_
  refine reglS fun K5 hK5 => ?_
  refine lQ hF hS (mQ rfl <| mQ rfl <| mQ rfl <| mQ rfl <| sq_end) fun a w hF hS => ?_
  replace hS := hS.perm (.swap _ _ _)
  replace hS := nl0_2 hS
  refine eQ hF hS rfl (ef_callxN 2 fn85 rfl (by exact (row_ct _ (.slice none 0 0) _ ls 0 [] hl hx (fun _ h => by cases h) omQ _ _ _ _ hb sl_nil hg0 n _ _ p0 n (.slice none 0 0) [] 0 false hp hh hn1 (Nat.le_refl _) omQ (by rw [List.length_nil]; omega) omQ ))) ?_
  rintro _ _ _ a w ⟨_, _, rfl, rfl, ⟨tv1, rfl, rfl, rfl⟩⟩ hF hS
  rw [hrf] at hF
  replace hS := nl0_2 hS
  refine eQ hF hS rfl (ef_bsliceW ty48 ty29 rfl bQ deQ oQ deQ deQ) ?_
  rintro v4 _ _ a w ⟨rfl, rfl⟩ hF hS
  replace hS := nl0_3 hS
  refine lQ hF hS (aQ rfl <| sq_end) fun a w hF hS => ?_
  refine wpList_nil (hK5 _ _ ?_)
  refine wp_ret ?_
  replace hS := hS.rowEq (m' := List.length ((Mk.sidesD first en (Mk.sub ls p0 n) p0))) (cs' := List.map vb (List.flatten ((Mk.sidesD first en (Mk.sub ls p0 n) p0)))) (by rw [hD]; rfl) (by rw [hD]; simp)
  exact fn_ret (rs := [.tmp 10]) rfl hF hS (vs := [_]) ⟨rfl, trivial⟩ (zs' := []) (hs' := [_]) zQ (List.singleton_sublist.2 (List.mem_cons_self ..)) ⟨rfl, rfl⟩
 ·(try simp only [bS] at hc1)
  have ho : ¬ (p0 + n ≤ first ∨ en ≤ p0) := by omega
  refine wp_skip ?_
  refine hK2 _ _ ?_
  refine k0 ?_; intro K6 hK6
  refine regS hF hS (mQ rfl <| mQ rfl <| dQ rfl rfl <| q0 (q_eqi rfl rfl) <| sq_end) fun a w hF hS => ?_
  refine wp_ifd hF rfl (fun hc2 => ?_) (fun hc2 => ?_)
  ·have hn3 : n = 1 := by omega
   have hD : (Mk.sidesD first en (Mk.sub ls p0 n) p0) = [] := by subst hn3; exact Mk.sides_1' omQ ho
   refine regS hF hS (aQ rfl <| sq_end) fun a w hF hS => ?_
   refine wp_ret ?_
   replace hS := hS.nilRow 29 16
   replace hS := hS.rowEq (m' := List.length ((Mk.sidesD first en (Mk.sub ls p0 n) p0))) (cs' := List.map vb (List.flatten ((Mk.sidesD first en (Mk.sub ls p0 n) p0)))) (by rw [hD]; rfl) (by rw [hD]; rfl)
   exact fn_ret (rs := [.tmp 10]) rfl hF hS (vs := [_]) ⟨rfl, trivial⟩ (zs' := []) (hs' := [_]) zQ (List.singleton_sublist.2 (List.mem_cons_self ..)) ⟨rfl, rfl⟩
  ·have hn2 : 2 ≤ n := by omega
   have hhp := Mk.half_pos n
   have hhl := Mk.half_lt hn2
   have hD : (Mk.sidesD first en (Mk.sub ls p0 n) p0) = (Mk.sidesD first en (Mk.sub ls p0 (Mk.half n)) p0) ++ (Mk.sidesD first en (Mk.sub ls (p0 + Mk.half n) (n - Mk.half n)) (p0 + Mk.half n)) := Mk.sides_s' hn2 omQ ho
   have hb1 := Mk.sides_bd (ls := ls) (first := first) (en := en) (Mk.half n) (Mk.half n) p0 hhp (Nat.le_refl _) omQ
   have hb2 := Mk.sides_bd (ls := ls) (first := first) (en := en) (n - Mk.half n) (n - Mk.half n) (p0 + Mk.half n) omQ (Nat.le_refl _) omQ
   refine wp_skip ?_
   refine hK6 _ _ ?_
   refine regS hF hS (mQ rfl <| mQ rfl <| mQ rfl <| dQ rfl rfl <| q0 (q_call fn106 rfl (fun w hS => half_ct _ n omQ omQ omQ w ) hI) <| pQ rfl rfl <| aQ rfl <| sq_end) fun a w hF hS => ?_
   refine reglS fun K10 hK10 => ?_
   refine lQ hF hS (mQ rfl <| mQ rfl <| mQ rfl <| mQ rfl <| mQ rfl <| sq_end) fun a w hF hS => ?_
   refine eQ hF hS rfl (ef_call fn92 rfl (fun w hS => ih _ _ p0 (Mk.half n)  omQ omQ omQ omQ omQ w (Sl.mono (hS.le zin0) hb) (hS.ext _ _ hg0))) ?_
   rintro v6 _ _ a w ⟨_, _, rfl, rfl, rfl, rfl⟩ hF hS
   replace hS := nl0_1 hS
   refine lQ hF hS (mQ rfl <| mQ rfl <| mQ rfl <| mQ rfl <| mQ rfl <| sq_end) fun a w hF hS => ?_
   refine eQ hF hS rfl (ef_call fn92 rfl (fun w hS => ih _ _ (p0 + Mk.half n) (n - Mk.half n)  omQ omQ omQ omQ omQ w (Sl.mono (hS.le zin0) hb) (hS.ext _ _ hg0))) ?_
   rintro v8 _ _ a w ⟨_, _, rfl, rfl, rfl, rfl⟩ hF hS
   replace hS := nl0_2 hS
   refine eQ hF hS rfl (ef_append ty48 ty29 1 rfl rfl rfl (src_row ty48 (k := 0) rfl oQ) bQ rfl deQ) ?_
   rintro v10 _ _ a w ⟨rfl, rfl⟩ hF hS
   replace hS := nl0_2 hS
   refine lQ hF hS (aQ rfl <| sq_end) fun a w hF hS => ?_
   refine wpList_nil (hK10 _ _ ?_)
   refine wp_ret ?_
   replace hS := hS.perm (.swap _ _ _)
   replace hS := hS.rowEq (m' := List.length ((Mk.sidesD first en (Mk.sub ls p0 n) p0))) (cs' := List.map vb (List.flatten ((Mk.sidesD first en (Mk.sub ls p0 n) p0)))) (by rw [hD, List.length_append]) (by rw [hD, List.flatten_append, List.map_append])
   exact fn_ret (rs := [.tmp 10]) rfl hF hS (vs := [_]) ⟨rfl, trivial⟩ (zs' := []) (hs' := [_]) zQ (List.singleton_sublist.2 (List.mem_cons_self ..)) ⟨rfl, rfl⟩
theorem rsides_all (v : Value) (ls : List Mk.Lf) (first en : Nat) (hl : ls.length < 1048576) (hx : ∀ x ∈ ls, x.1.length < 1048576 ∧ x.2.length < 1048576) (hf9 : first ≤ 1048576) (he9 : en ≤ 1048576) (fz0 : Nat × Nat) (bt0 : TypeId) : ∀ (f : Nat) (lo hi : Int) (p0 n : Nat) (hp : lo = p0) (hh : hi = p0 + n) (hn1 : 1 ≤ n) (hnf : n ≤ f) (han : p0 + n ≤ ls.length) (w : World) (hb : Sl encF (ph w) v ls) (hg0 : w.heap[0]? = some (.cells (Sha.kc.map vw).toArray bt0 fz0)), Ct Tryd.prog 92 [v, vi (first : Int), vi (en : Int), vi lo, vi hi] w (fun r zs hs => zs = [] ∧ hs = [.row r 29 16 ((Mk.sidesD first en (Mk.sub ls p0 n) p0)).length (((Mk.sidesD first en (Mk.sub ls p0 n) p0)).flatten.map vb)]) := by
 intro f
 induction f with
 | zero => intro lo hi p0 n hp hh hn1 hnf; omega
 | succ f ih => exact fun lo hi p0 n hp hh hn1 hnf han w hb hg0 => rsides_step v ls first en hl hx hf9 he9 fz0 bt0 f ih lo hi p0 n hp hh hn1 hnf han w hb hg0
theorem rshown_ct (v : Value) (ls : List Mk.Lf) (first en : Nat) (fi ei : Int) (hfi : fi = first) (hei : ei = en) (hl : ls.length < 1048576) (hx : ∀ x ∈ ls, x.1.length < 1048576 ∧ x.2.length < 1048576) (hfe : first ≤ en) (hen : en ≤ ls.length) (w : World) (hb : Sl encF (ph w) v ls) {fz0 : Nat × Nat} {bt0 : TypeId} (hg0 : w.heap[0]? = some (.cells (Sha.kc.map vw).toArray bt0 fz0)) : Ct Tryd.prog 59 [v, vi fi, vi ei] w (PfR (Mk.shown ls first en)) := by
 refine fn_enter Tryd.func59 rfl Tryd.ntmps59 lB fun a hF hS => ?_
 subst hfi; subst hei
 have hbl := hb.1
 have hkv := F_all hb
 have hkc : ∀ x ∈ ((ls.take en).drop first), kvP x := fun x hx => hkv x (List.mem_of_mem_take (List.mem_of_mem_drop hx))
 have hcl : ((ls.take en).drop first).length ≤ 1048576 := by rw [List.length_drop, List.length_take]; omega
 refine reglS fun K1 hK1 => ?_
 refine eQ hF hS rfl (ef_allocA ty54) ?_
 rintro _ _ _ a w ⟨b1, rfl, rfl, rfl⟩ hF hS
 refine wpList_nil (hK1 _ _ ?_)
 refine reglS fun K2 hK2 => ?_
 refine lQ hF hS (mQ rfl <| mQ rfl <| q0 (q_len_sl ty24 hb rfl) <| sq_end) fun a w hF hS => ?_
 refine eQ hF hS rfl (ef_bslice0 ty24 ty75) ?_
 rintro v2 _ _ a w ⟨rfl, rfl⟩ hF hS
 replace hS := nl0_2 hS
 refine lQ hF hS (mQ rfl <| mQ rfl <| mQ rfl <| q0 (q_slsl_lo_hi ty24 ty75 hb rfl rfl rfl omQ) <| sq_end) fun a w hF hS => ?_
 refine eQ hF hS rfl (ef_append ty24 ty75 0 rfl rfl rfl (src_slK ty24 (Sl.cut hb omQ) zin0 deQ) bQ rfl deQ) ?_
 rintro v4 _ _ a w ⟨rfl, rfl⟩ hF hS
 replace hS := nl0_2 hS
 refine lQ hF hS (q0 (q_buildP (places := [(0, 1), (1, 1), (2, 1), (3, 1)]) (cells := [_, _, _, .slice none 0 0]) ty54 kQ rfl (fill_stepL (c := [_]) (l := [_, _, _, _]) (l' := [_, _, _, _]) rfl (cells_one rfl) rfl lB rfl (fill_stepL (c := [_]) (l := [_, _, _, _]) (l' := [_, _, _, _]) rfl (cells_one rfl) rfl lB rfl (fill_stepL (c := [_]) (l := [_, _, _, _]) (l' := [_, _, _, _]) rfl (cells_one (row_one (hS.ow 0 rfl))) rfl lB rfl (fill_endL rfl))))) <| sq_end) fun a w hF hS => ?_
 refine eQ hF hS rfl (ef_allocA ty54) ?_
 rintro _ _ _ a w ⟨b5, rfl, rfl, rfl⟩ hF hS
 refine eQ hF hS rfl (ef_storeW ty54 0 rfl rfl rfl rfl bQ (oc_cons rfl (oc_cons rfl (oc_cons (row_one (hS.ow 1 rfl)) (oc_cons rfl oc_nil)))) bQ) ?_
 rintro _ _ _ a w ⟨rfl, rfl, rfl⟩ hF hS
 replace hS := nl0_3 hS
 refine wpList_nil (hK2 _ _ ?_)
 refine k0 ?_; intro K3 hK3
 refine regS hF hS (mQ rfl <| q0 (q_len_sl ty24 hb rfl) <| q0 (q_gti rfl rfl) <| sq_end) fun a w hF hS => ?_
 refine wp_ifd hF rfl (fun hc1 => ?_) (fun hc1 => ?_)
 ·have hb1 := Mk.sides_bd (ls := ls) (first := first) (en := en) ls.length ls.length 0 omQ (Nat.le_refl _) omQ
  rw [Mk.sub_all] at hb1
  refine regl ?_
  refine lQ hF hS (mQ rfl <| mQ rfl <| mQ rfl <| mQ rfl <| q0 (q_len_sl ty24 hb rfl) <| sq_end) fun a w hF hS => ?_
  refine eQ hF hS rfl (ef_call fn92 rfl (fun w hS => rsides_all _ ls first en omQ hx omQ omQ _ _ ls.length _ _ 0 ls.length rfl omQ omQ (Nat.le_refl _) omQ w (Sl.mono (hS.le zin0) hb) (hS.ext _ _ hg0))) ?_
  rintro v6 _ _ a w ⟨_, _, rfl, rfl, rfl, rfl⟩ hF hS
  replace hS := nl0_4 hS
  refine lQ hF hS (q0 (q_fieldAddr ty54 rfl rfl (s' := 0) kQ) <| sq_end) fun a w hF hS => ?_
  refine eQ hF hS rfl (ef_store1 ty48 1 rfl rfl rfl (row_one (hS.ow 0 rfl)) (by simp)) ?_
  rintro _ _ _ a w ⟨rfl, rfl, rfl⟩ hF hS
  replace hS : St _ [] [_, .blk _ _ ([_, _, _, _].set 3 _), _, _] _ := hS
  simp only [sC] at hS
  replace hS := nl0_4 hS
  refine wpList_nil (hK3 _ _ ?_)
  refine reglS fun K5 hK5 => ?_
  refine lQ hF hS (q0 (q_ld_blkW ty54 1 rfl rfl bQ rfl) <| sq_end) fun a w hF hS => ?_
  refine eQ hF hS rfl (ef_storeW ty54 3 rfl rfl rfl rfl bQ (oc_cons rfl (oc_cons rfl (oc_cons (row_one (hS.ow 2 rfl)) (oc_cons (row_one (hS.ow 0 rfl)) oc_nil)))) bQ) ?_
  rintro _ _ _ a w ⟨rfl, rfl, rfl⟩ hF hS
  replace hS := nl0_4 hS
  refine wpList_nil (hK5 _ _ ?_)
  refine wp_ret ?_
  replace hS := hS.perm P0_1
  obtain ⟨zk, hzk, hS⟩ := St.freezeF (xs := ((ls.take en).drop first)) (hS.rowEq (m' := List.length (((ls.take en).drop first))) (cs' := List.flatMap kvC (((ls.take en).drop first))) (by simp) (by simp)) rfl omQ (hkc)
  replace hS := nl1_3 hS
  obtain ⟨zm, hzm, hS⟩ := St.freezeA (m := 16) (l := Mk.sidesD first en ls 0) (hS.rowEq (m' := List.length (Mk.sidesD first en ls 0)) (cs' := List.map vb (List.flatten (Mk.sidesD first en ls 0))) (by rw [Mk.sub_all]) (by rw [Mk.sub_all])) rfl omQ (hb1.2)
  replace hS : St _ [_, _] [_, _] _ := hS
  replace hS := hS.zone00
  replace hS : St _ [_, _, _] [_, _] _ := hS
  obtain ⟨zu, hzu, hS⟩ := hS.union
  exact fn_ret (rs := [.cell 6 54]) rfl hF hS (vs := [_]) ⟨⟨_, _, _, _, _, _, _, rfl, List.mem_of_getElem? (i := 1) rfl, ty54, .inl ⟨rfl, bQ, rfl⟩⟩, trivial⟩ (zs' := [zu]) (hs' := []) (List.singleton_sublist.2 (by simp)) zQ (pf_of (q := ⟨(first : Int), (ls.length : Int), ((ls.take en).drop first), Mk.sidesD first en ls 0⟩) ⟨_, _, zu, rfl, Sl.mono (hzu _ (by simp)) hzk, Sl.mono (hzu _ (by simp)) hzm, rfl, rfl⟩ (by unfold Mk.shown; rw [if_neg omQ]))
 ·refine wp_skip ?_
  refine hK3 _ _ ?_
  refine reglS fun K6 hK6 => ?_
  refine lQ hF hS (q0 (q_ld_blkW ty54 0 rfl rfl bQ rfl) <| sq_end) fun a w hF hS => ?_
  refine eQ hF hS rfl (ef_storeW ty54 2 rfl rfl rfl rfl bQ (oc_cons rfl (oc_cons rfl (oc_cons (row_one (hS.ow 1 rfl)) (oc_cons rfl oc_nil)))) bQ) ?_
  rintro _ _ _ a w ⟨rfl, rfl, rfl⟩ hF hS
  replace hS := nl0_3 hS
  refine wpList_nil (hK6 _ _ ?_)
  refine wp_ret ?_
  replace hS := hS.perm (.swap _ _ _)
  obtain ⟨zk, hzk, hS⟩ := St.freezeF (xs := ((ls.take en).drop first)) (hS.rowEq (m' := List.length (((ls.take en).drop first))) (cs' := List.flatMap kvC (((ls.take en).drop first))) (by simp) (by simp)) rfl omQ (hkc)
  replace hS : St _ [_] [_, _] _ := hS
  replace hS := hS.zone00
  replace hS : St _ [_, _] [_, _] _ := hS
  obtain ⟨zu, hzu, hS⟩ := hS.union
  exact fn_ret (rs := [.cell 6 54]) rfl hF hS (vs := [_]) ⟨⟨_, _, _, _, _, _, _, rfl, List.mem_of_getElem? (i := 1) rfl, ty54, .inl ⟨rfl, bQ, rfl⟩⟩, trivial⟩ (zs' := [zu]) (hs' := []) (List.singleton_sublist.2 (by simp)) zQ (pf_of (q := ⟨(first : Int), (ls.length : Int), ((ls.take en).drop first), []⟩) ⟨_, _, zu, rfl, Sl.mono (hzu _ (by simp)) hzk, sl_nil, rfl, rfl⟩ (by unfold Mk.shown; rw [if_pos omQ]))
end
section
theorem ty50 : Tf Tryd.prog 50 (.struct #[⟨ "First", 3, 0, false, "", "", 0⟩, ⟨ "Size", 3, 1, false, "", "", 8⟩, ⟨ "Leaves", 33, 2, false, "", "", 16⟩, ⟨ "Sides", 48, 3, false, "", "", 40⟩]) 4 64 (.agg ([Value.int .i64 0, Value.int .i64 0] ++ [Value.slice none 0 0, Value.slice none 0 0]).toArray) := ⟨Tryd.underlying50, by kernel_rfl⟩
theorem ty139 : Tf Tryd.prog 139 (.func #[3, 3] #[] false) 1 8 (Value.nilFunc) := ⟨Tryd.underlying139, by kernel_rfl⟩
theorem fn63 : FnOk Tryd.prog 63 := fQ Tryd.func63
theorem fn91 : FnOk Tryd.prog 91 := fQ Tryd.func91
attribute [local irreducible] Sha.sum Sha.mac Sha.ofD Wi.int Wi.ints Wi.bytes Sha.inp Mk.half Lib.compareBytes
theorem cloneL_ct (v : Value) (ls : List Mk.Lf) (hl : ls.length < 2097152) (w : World) (hb : Sl encF (ph w) v ls) : Ct Tryd.prog 63 [v] w (SlR encF ls) := by
 refine fn_enter Tryd.func63 rfl Tryd.ntmps63 lB fun a hF hS => ?_
 have hbl := hb.1
 have hkv := F_all hb
 refine regS hF hS (aQ rfl <| sq_end) fun a w hF hS => ?_
 refine k0 ?_; intro K2 hK2
 refine regS hF hS (mQ rfl <| q0 (q_eqnil ty33 hb rfl rfl) <| sq_end) fun a w hF hS => ?_
 refine wp_if hF rfl (fun hc1 => ?_) (fun hc1 => ?_)
 ·refine k0 ?_; intro K4 hK4
  refine reg hF hS (aQ rfl <| sq_end) fun a w hF hS => ?_
  refine hK4 _ _ ?_
  refine wp_ret ?_
  replace hS := hS.zone00
  have hk0 := nilS_nil hb hc1
  subst hk0
  exact fn_ret (rs := [.tmp 2]) rfl hF hS (vs := [_]) ⟨rfl, trivial⟩ (zs' := [fun _ => none]) (hs' := []) (List.singleton_sublist.2 (by simp)) zQ ⟨_, sl_nil, rfl, rfl⟩
 ·refine wp_skip ?_
  refine hK2 _ _ ?_
  refine reglS fun K5 hK5 => ?_
  refine eQ hF hS rfl (ef_bslice0 ty33 ty41) ?_
  rintro v1 _ _ a w ⟨rfl, rfl⟩ hF hS
  replace hS := nl0_1 hS
  refine lQ hF hS (mQ rfl <| sq_end) fun a w hF hS => ?_
  refine eQ hF hS rfl (ef_append ty33 ty41 0 rfl rfl rfl (src_slK ty33 hb zin0 deQ) bQ rfl deQ) ?_
  rintro v3 _ _ a w ⟨rfl, rfl⟩ hF hS
  replace hS := nl0_1 hS
  refine lQ hF hS (aQ rfl <| sq_end) fun a w hF hS => ?_
  refine wpList_nil (hK5 _ _ ?_)
  refine wp_ret ?_
  obtain ⟨zr, hzr, hS⟩ := St.freezeF (xs := ls) (hS.rowEq (Nat.zero_add _) (List.nil_append _)) rfl omQ hkv
  exact fn_ret (rs := [.tmp 2]) rfl hF hS (vs := [_]) ⟨rfl, trivial⟩ (zs' := [zr]) (hs' := []) (List.singleton_sublist.2 (by simp)) zQ ⟨zr, hzr, rfl, rfl⟩
/-- What the closure over the sides makes of what it is lent. -/
def ShR (e4 e5 e7 e3 e8 : Nat) (c0 c1 c2 v : Value) (first en : Nat) (S : List Mk.Dg) : Value → List PH → List Res → Prop := fun r zs hs => ∃ uT, r = .tuple ([] : List Value).toArray ∧ zs = [] ∧ hs = [.blk e4 3 [vi (first : Int)], .blk e5 3 [vi (en : Int)], .blk e7 50 [c0, c1, c2, uT], .blk e3 33 [v], .blk e8 139 [.func (.func 91) (List.nil : List Value).toArray [Value.pointer (some ⟨e4, 0, none⟩), Value.pointer (some ⟨e5, 0, none⟩), Value.pointer (some ⟨e7, 0, none⟩), Value.pointer (some ⟨e3, 0, none⟩), Value.pointer (some ⟨e8, 0, none⟩)].toArray], .row uT 29 16 (S).length ((S).flatten.map vb)]
theorem sh_of {e4 e5 e7 e3 e8 : Nat} {c0 c1 c2 v : Value} {first en : Nat} {S S' : List Mk.Dg} {r : Value} {zs : List PH} {hs : List Res} (h : ShR e4 e5 e7 e3 e8 c0 c1 c2 v first en S r zs hs) (e : S' = S) : ShR e4 e5 e7 e3 e8 c0 c1 c2 v first en S' r zs hs := e ▸ h
theorem shown_step (e4 e5 e7 e3 e8 : Nat) (c0 c1 c2 v : Value) (ls : List Mk.Lf) (first en : Nat) (hc0 : c0.oneCell' = true) (hc1 : c1.oneCell' = true) (hc2 : c2.oneCell' = true) (hl : ls.length < 1048576) (hx : ∀ x ∈ ls, x.1.length < 1048576 ∧ x.2.length < 1048576) (hf9 : first ≤ 1048576) (he9 : en ≤ 1048576) (fz1 : Nat × Nat) (bt1 : TypeId) (w0 : World) (zsr : List PH) (hb : Sl encF (ph w0) v ls) (hg1 : w0.heap[2]? = some (.cells (Sha.kc.map vw).toArray bt1 fz1)) (f : Nat) (ih : ∀ (lo hi : Int) (p0 n : Nat) (u : Value) (S : List Mk.Dg) (hp : lo = p0) (hh : hi = p0 + n) (hn1 : 1 ≤ n) (hnf : n ≤ f) (han : p0 + n ≤ ls.length) (hS9 : S.length + n ≤ 100000000), Cx Tryd.prog 91 [vi lo, vi hi, .pointer (some ⟨e4, 0, none⟩), .pointer (some ⟨e5, 0, none⟩), .pointer (some ⟨e7, 0, none⟩), .pointer (some ⟨e3, 0, none⟩), .pointer (some ⟨e8, 0, none⟩)] w0 zsr [.blk e4 3 [vi (first : Int)], .blk e5 3 [vi (en : Int)], .blk e7 50 [c0, c1, c2, u], .blk e3 33 [v], .blk e8 139 [.func (.func 91) (List.nil : List Value).toArray [Value.pointer (some ⟨e4, 0, none⟩), Value.pointer (some ⟨e5, 0, none⟩), Value.pointer (some ⟨e7, 0, none⟩), Value.pointer (some ⟨e3, 0, none⟩), Value.pointer (some ⟨e8, 0, none⟩)].toArray], .row u 29 16 (S).length ((S).flatten.map vb)] (ShR e4 e5 e7 e3 e8 c0 c1 c2 v first en (S ++ (Mk.sidesD first en (Mk.sub ls p0 n) p0)))) (lo hi : Int) (p0 n : Nat) (u : Value) (S : List Mk.Dg) (hp : lo = p0) (hh : hi = p0 + n) (hn1 : 1 ≤ n) (hnf : n ≤ f + 1) (han : p0 + n ≤ ls.length) (hS9 : S.length + n ≤ 100000000) : Cx Tryd.prog 91 [vi lo, vi hi, .pointer (some ⟨e4, 0, none⟩), .pointer (some ⟨e5, 0, none⟩), .pointer (some ⟨e7, 0, none⟩), .pointer (some ⟨e3, 0, none⟩), .pointer (some ⟨e8, 0, none⟩)] w0 zsr [.blk e4 3 [vi (first : Int)], .blk e5 3 [vi (en : Int)], .blk e7 50 [c0, c1, c2, u], .blk e3 33 [v], .blk e8 139 [.func (.func 91) (List.nil : List Value).toArray [Value.pointer (some ⟨e4, 0, none⟩), Value.pointer (some ⟨e5, 0, none⟩), Value.pointer (some ⟨e7, 0, none⟩), Value.pointer (some ⟨e3, 0, none⟩), Value.pointer (some ⟨e8, 0, none⟩)].toArray], .row u 29 16 (S).length ((S).flatten.map vb)] (ShR e4 e5 e7 e3 e8 c0 c1 c2 v first en (S ++ (Mk.sidesD first en (Mk.sub ls p0 n) p0))) := by
 refine fn_enterx Tryd.func91 rfl Tryd.ntmps91 lB fun hsr a w hF hS => ?_
 replace hS := nt0_6 hS
 have hbl := hb.1
 have hcut : ((ls.take hi.toNat).drop lo.toNat) = Mk.sub ls p0 n := by rw [show hi.toNat = p0 + n by omega, show lo.toNat = p0 by omega, Mk.cut_sub]
 have hcl : ((ls.take hi.toNat).drop lo.toNat).length = n := by rw [hcut, Mk.sub_len omQ]
 have hr1 : (Mk.rowD ((ls.take hi.toNat).drop lo.toNat)).length = 16 := Mk.rowD_16 omQ
 refine wp_block ?_
 refine reglS fun K1 hK1 => ?_
 refine lQ hF hS (mQ rfl <| q0 (q_ld_blk1 ty3 0 rfl rfl rfl rfl) <| q0 (q_lei rfl rfl) <| mQ rfl <| sq_end) fun a w hF hS => ?_
 refine wpl_or 3 14 3 hF hS rfl rfl rfl rfl rfl (fun hg => have hg := (by first | exact of_decide_eq_false hg | exact hg); sq_go 14 rfl rfl rfl (q_move rfl) <| sq_go 14 rfl rfl rfl (q_ld_blk1 ty3 1 rfl rfl rfl rfl) <| sq_go 14 rfl rfl rfl (q_gei rfl rfl) <| sq_end) rfl rfl fun a w hF hS => ?_
 refine lQ hF hS (aQ rfl <| sq_end) fun a w hF hS => ?_
 refine wpList_nil (hK1 _ _ ?_)
 refine wp_if hF rfl (fun hc1 => ?_) (fun hc1 => ?_)
 ·(try simp only [bS] at hc1)
  have ho : p0 + n ≤ first ∨ en ≤ p0 := by omega
  have hD : (Mk.sidesD first en (Mk.sub ls p0 n) p0) = [Mk.rowD (Mk.sub ls p0 n)] := Mk.sides_out' hn1 omQ ho
  revert hS; revert hF; apply regJ (J := J2 (α0 := Value) (α1 := Value) 45 _ _ _ _ _) #[false, false, false, false, false, false, false, false, false, false, false] 11 mixed rfl rfl
  ·intro w hF hS
   refine tQ 0 rfl hF (hS.keep sQ (sN6)) (q_fieldAddr ty50 rfl rfl (s' := 0) kQ) fun a hF => ?_
   refine tQ 1 rfl hF (hS.keep sQ (sN3.k.n.n)) (q_ld_blk1 ty48 0 rfl rfl rfl rfl) fun a hF => ?_
   refine tQ 2 rfl hF (hS.keep sQ (sN2.k.n.n.n)) (q_ld_blk1 ty33 0 rfl rfl rfl rfl) fun a hF => ?_
   refine tQ 3 rfl hF (hS.keep sQ (sN6)) (q_move rfl) fun a hF => ?_
   refine tQ 4 rfl hF (hS.keep sQ (sN6)) (q_move rfl) fun a hF => ?_
   refine tQ 5 rfl hF (hS.keep sQ (sN6)) (q_slsl_lo_hi ty33 ty41 hb rfl rfl rfl omQ) fun a hF => ?_
   refine gQ 6 rfl rfl hF hS rfl (ef_qt (q_call fn51 rfl (fun w hS => digest_ct _ ((ls.take hi.toNat).drop lo.toNat) omQ omQ (fun x hx2 => hx x (List.mem_of_mem_take (List.mem_of_mem_drop hx2))) w (Sl.mono (hS.le zin0) (Sl.cut hb omQ)) (hS.ext _ _ hg1)) hI)) ?_
   rintro _ _ _ a w ⟨rfl, rfl, rfl⟩ hF hS
   refine ⟨⟨iQ, iQ, iQ, iQ, .inr (hS.keep sQ (sN3.k.n.n)), .inr (hS.keep sQ (sN6)), trivial⟩, ?_⟩
   refine gQ 7 rfl rfl hF hS rfl (ef_bsliceW ty48 ty29 rfl bQ deQ oQ deQ deQ) ?_
   rintro v_1_7 _ _ a w ⟨rfl, rfl⟩ hF hS
   replace hS := nt0_7 hS
   refine ⟨⟨iQ, iQ, iQ, iQ, .inr (hS.keep sQ (sN3.k.n.n.n)), .inr (hS.keep sQ (sQ.n.n.n.n.n.n.n)), trivial⟩, ?_⟩
   refine gQ 8 rfl rfl hF hS rfl (ef_append ty48 ty29 6 rfl rfl rfl (src_row ty48 (k := 0) rfl oQ) bQ rfl deQ) ?_
   rintro v_1_8 _ _ a w ⟨rfl, rfl⟩ hF hS
   replace hS := nt0_7 hS
   refine ⟨⟨iQ, iQ, iQ, iQ, iQ, iQ, trivial⟩, ?_⟩
   refine tQ 9 rfl hF (hS.keep sQ (sQ.n.n.n.n.n.n.n)) (q_fieldAddr ty50 rfl rfl (s' := 0) kQ) fun a hF => ?_
   refine gQ 10 rfl rfl hF hS rfl (ef_store1 ty48 3 rfl rfl rfl (row_one (hS.ow 6 rfl)) (by simp)) ?_
   rintro _ _ _ a w ⟨rfl, rfl, rfl⟩ hF hS
   replace hS : St _ (_) (_ :: _ :: _ :: .blk _ _ ([_, _, _, _].set 3 _) :: _ :: _ :: _ :: _) _ := hS
   simp only [sC] at hS
   replace hS := nt0_7 hS
   refine ⟨⟨iQ, iQ, iQ, iQ, iQ, iQ, iQ, trivial⟩, ?_⟩
   exact goW_done kQ (j2_mk v_1_7 v_1_8 (trivial) (hF.sub (L' := []) trivial) hS)
  rintro a w ⟨v_1_7, v_1_8, -, hF, hS⟩
  (try dsimp only at hF hS)
  -- falls off the end
  replace hS := hS.perm (.swap _ _ _)
  replace hS := hS.perm (.cons _ (.swap _ _ _))
  replace hS := hS.perm (.cons _ (.cons _ (.swap _ _ _)))
  replace hS := hS.perm (.cons _ (.cons _ (.cons _ (.swap _ _ _))))
  replace hS := hS.perm (.cons _ (.cons _ (.cons _ (.cons _ (.swap _ _ _)))))
  replace hS := hS.perm (.cons _ (.cons _ (.cons _ (.cons _ (.cons _ (.swap _ _ _))))))
  exact fn_retx (rs := []) rfl hF hS (vs := []) trivial [] [_, _, _, _, _, _] sQ (sN1.k.k.k.k.k.k) (sh_of (S := S ++ [Mk.rowD (Mk.sub ls p0 n)]) ⟨_, rfl, rfl, by rw [hcut, List.length_append, List.length_singleton, List.flatten_append, List.map_append, List.flatten_singleton]⟩ (by rw [hD]))
 ·(try simp only [bS] at hc1)
  have ho : ¬ (p0 + n ≤ first ∨ en ≤ p0) := by omega
  refine regS hF hS (mQ rfl <| mQ rfl <| dQ rfl rfl <| q0 (q_gti rfl rfl) <| aQ rfl <| sq_end) fun a w hF hS => ?_
  refine wp_ifd hF rfl (fun hc2 => ?_) (fun hc2 => ?_)
  ·have hn2 : 2 ≤ n := by omega
   have hhp := Mk.half_pos n
   have hhl := Mk.half_lt hn2
   have hD : (Mk.sidesD first en (Mk.sub ls p0 n) p0) = (Mk.sidesD first en (Mk.sub ls p0 (Mk.half n)) p0) ++ (Mk.sidesD first en (Mk.sub ls (p0 + Mk.half n) (n - Mk.half n)) (p0 + Mk.half n)) := Mk.sides_s' hn2 omQ ho
   have hb1 := Mk.sides_bd (ls := ls) (first := first) (en := en) (Mk.half n) (Mk.half n) p0 hhp (Nat.le_refl _) omQ
   have hb2 : (S ++ (Mk.sidesD first en (Mk.sub ls p0 (Mk.half n)) p0)).length = S.length + (Mk.sidesD first en (Mk.sub ls p0 (Mk.half n)) p0).length := List.length_append
   refine regS hF hS (mQ rfl <| mQ rfl <| q0 (q_call fn81 rfl (fun w hS => middle_ct _ _ n omQ omQ omQ omQ w ) hI) <| aQ rfl <| sq_end) fun a w hF hS => ?_
   refine reglS fun K4 hK4 => ?_
   refine lQ hF hS (q0 (q_ld_blk1 ty139 4 rfl rfl rfl rfl) <| mQ rfl <| mQ rfl <| sq_end) fun a w hF hS => ?_
   refine eQ hF hS rfl (ef_callvxN 6 fn91 rfl rfl (by exact (ih _ _ p0 (Mk.half n) _ S  omQ omQ omQ omQ omQ omQ ))) ?_
   rintro _ _ _ a w ⟨_, _, rfl, rfl, ⟨u1, rfl, rfl, rfl⟩⟩ hF hS
   replace hS := nt0_6 hS
   refine wpList_nil (hK4 _ _ ?_)
   refine regl ?_
   refine lQ hF hS (q0 (q_ld_blk1 ty139 4 rfl rfl rfl rfl) <| mQ rfl <| mQ rfl <| sq_end) fun a w hF hS => ?_
   refine eQ hF hS rfl (ef_callvxN 6 fn91 rfl rfl (by exact (ih _ _ (p0 + Mk.half n) (n - Mk.half n) _ (S ++ (Mk.sidesD first en (Mk.sub ls p0 (Mk.half n)) p0))  omQ omQ omQ omQ omQ omQ ))) ?_
   rintro _ _ _ a w ⟨_, _, rfl, rfl, ⟨u2, rfl, rfl, rfl⟩⟩ hF hS
   replace hS := nt0_6 hS
   refine wpList_nil ?_
   -- falls off the end
   exact fn_retx (rs := []) rfl hF hS (vs := []) trivial [] [_, _, _, _, _, _] sQ sQ (sh_of (S := (S ++ (Mk.sidesD first en (Mk.sub ls p0 (Mk.half n)) p0)) ++ (Mk.sidesD first en (Mk.sub ls (p0 + Mk.half n) (n - Mk.half n)) (p0 + Mk.half n))) ⟨_, rfl, rfl, rfl⟩ (by rw [hD, List.append_assoc]))
  ·have hn3 : n = 1 := by omega
   have hD : (Mk.sidesD first en (Mk.sub ls p0 n) p0) = [] := by subst hn3; exact Mk.sides_1' omQ ho
   refine wp_skip ?_
   -- falls off the end
   exact fn_retx (rs := []) rfl hF hS (vs := []) trivial [] [_, _, _, _, _, _] sQ sQ (sh_of (S := S) ⟨_, rfl, rfl, rfl⟩ (by rw [hD, List.append_nil]))
theorem shown_all (e4 e5 e7 e3 e8 : Nat) (c0 c1 c2 v : Value) (ls : List Mk.Lf) (first en : Nat) (hc0 : c0.oneCell' = true) (hc1 : c1.oneCell' = true) (hc2 : c2.oneCell' = true) (hl : ls.length < 1048576) (hx : ∀ x ∈ ls, x.1.length < 1048576 ∧ x.2.length < 1048576) (hf9 : first ≤ 1048576) (he9 : en ≤ 1048576) (fz1 : Nat × Nat) (bt1 : TypeId) (w0 : World) (zsr : List PH) (hb : Sl encF (ph w0) v ls) (hg1 : w0.heap[2]? = some (.cells (Sha.kc.map vw).toArray bt1 fz1)) : ∀ (f : Nat) (lo hi : Int) (p0 n : Nat) (u : Value) (S : List Mk.Dg) (hp : lo = p0) (hh : hi = p0 + n) (hn1 : 1 ≤ n) (hnf : n ≤ f) (han : p0 + n ≤ ls.length) (hS9 : S.length + n ≤ 100000000), Cx Tryd.prog 91 [vi lo, vi hi, .pointer (some ⟨e4, 0, none⟩), .pointer (some ⟨e5, 0, none⟩), .pointer (some ⟨e7, 0, none⟩), .pointer (some ⟨e3, 0, none⟩), .pointer (some ⟨e8, 0, none⟩)] w0 zsr [.blk e4 3 [vi (first : Int)], .blk e5 3 [vi (en : Int)], .blk e7 50 [c0, c1, c2, u], .blk e3 33 [v], .blk e8 139 [.func (.func 91) (List.nil : List Value).toArray [Value.pointer (some ⟨e4, 0, none⟩), Value.pointer (some ⟨e5, 0, none⟩), Value.pointer (some ⟨e7, 0, none⟩), Value.pointer (some ⟨e3, 0, none⟩), Value.pointer (some ⟨e8, 0, none⟩)].toArray], .row u 29 16 (S).length ((S).flatten.map vb)] (ShR e4 e5 e7 e3 e8 c0 c1 c2 v first en (S ++ (Mk.sidesD first en (Mk.sub ls p0 n) p0))) := by
 intro f
 induction f with
 | zero => intro lo hi p0 n u S hp hh hn1 hnf; omega
 | succ f ih => exact fun lo hi p0 n u S hp hh hn1 hnf han hS9 => shown_step e4 e5 e7 e3 e8 c0 c1 c2 v ls first en hc0 hc1 hc2 hl hx hf9 he9 fz1 bt1 w0 zsr hb hg1 f ih lo hi p0 n u S hp hh hn1 hnf han hS9
theorem shown_ct (v : Value) (ls : List Mk.Lf) (first en : Nat) (fi ei : Int) (hfi : fi = first) (hei : ei = en) (hl : ls.length < 1048576) (hx : ∀ x ∈ ls, x.1.length < 1048576 ∧ x.2.length < 1048576) (hfe : first ≤ en) (hen : en ≤ ls.length) (w : World) (hb : Sl encF (ph w) v ls) {fz1 : Nat × Nat} {bt1 : TypeId} (hg1 : w.heap[2]? = some (.cells (Sha.kc.map vw).toArray bt1 fz1)) : Ct Tryd.prog 57 [v, vi fi, vi ei] w (PfR (Mk.shown ls first en)) := by
 refine fn_enter Tryd.func57 rfl Tryd.ntmps57 lB fun a hF hS => ?_
 subst hfi; subst hei
 have hbl := hb.1
 have hcl : ((ls.take en).drop first).length ≤ 1048576 := by rw [List.length_drop, List.length_take]; omega
 have htn : ((en : Int).toNat = en) ∧ ((first : Int).toNat = first) := ⟨Int.toNat_natCast _, Int.toNat_natCast _⟩
 have hcl2 : ((ls.take (en : Int).toNat).drop (first : Int).toNat).length ≤ 1048576 := by rw [htn.1, htn.2]; exact hcl
 refine reglS fun K1 hK1 => ?_
 refine eQ hF hS rfl (ef_box1 rfl (sl_one' hb)) ?_
 rintro _ _ _ a w ⟨b1, rfl, rfl, rfl⟩ hF hS
 refine eQ hF hS rfl (ef_box1 rfl rfl) ?_
 rintro _ _ _ a w ⟨b2, rfl, rfl, rfl⟩ hF hS
 refine eQ hF hS rfl (ef_box1 rfl rfl) ?_
 rintro _ _ _ a w ⟨b3, rfl, rfl, rfl⟩ hF hS
 refine eQ hF hS rfl (ef_allocA ty50) ?_
 rintro _ _ _ a w ⟨b4, rfl, rfl, rfl⟩ hF hS
 refine wpList_nil (hK1 _ _ ?_)
 refine k0 ?_; intro K2 hK2
 revert hS; revert hF; apply regJ (J := J3 (α0 := Value) (α1 := PH) (α2 := Nat) 27 _ _ _ _ _) #[false, false, false, false, false, false, false, false, false, false, false] 11 mixed rfl rfl
 ·intro w hF hS
  refine tQ 0 rfl hF (hS.keep sQ (zQ.k.n.n)) (q_ld_blk1 ty3 0 rfl rfl rfl rfl) fun a hF => ?_
  refine tQ 1 rfl hF (hS.keep sQ (sN3)) (q_ld_blk1 ty33 0 rfl rfl rfl rfl) fun a hF => ?_
  refine tQ 2 rfl hF (hS.keep sQ zQ) (q_len_sl ty33 hb rfl) fun a hF => ?_
  refine tQ 3 rfl hF (hS.keep sQ (sN3)) (q_ld_blk1 ty33 0 rfl rfl rfl rfl) fun a hF => ?_
  refine tQ 4 rfl hF (hS.keep sQ (zQ.k.n.n)) (q_ld_blk1 ty3 0 rfl rfl rfl rfl) fun a hF => ?_
  refine tQ 5 rfl hF (hS.keep sQ (zQ.k.n)) (q_ld_blk1 ty3 0 rfl rfl rfl rfl) fun a hF => ?_
  refine tQ 6 rfl hF (hS.keep sQ zQ) (q_slsl_lo_hi ty33 ty41 hb rfl rfl rfl omQ) fun a hF => ?_
  refine goW_fork [7, 9] kQ rfl ⟨?_, ?_, trivial⟩
  ·refine stepW_ef _ rfl rfl hF hS rfl (ef_call fn63 rfl (fun w hS => cloneL_ct _ _ (by first | with_reducible assumption | omega | (simp; omega)) w (Sl.mono (hS.le zin0) (Sl.cut hb omQ)))) ?_
   rintro v_1_7 _ _ a w ⟨_, _, rfl, rfl, ⟨z_1_7, hz_1_7, rfl, rfl⟩⟩ hF hS
   refine ⟨⟨iQ, iQ, iQ, iQ, .inr hS.k0, .inr (hS.k1 (sN3)), .inr (hS.k1 (zQ.k.n.n)), trivial⟩, ?_⟩
   refine tQ 8 rfl hF (hS.keep sQ zQ) (q_buildP (places := [(0, 1), (1, 1), (2, 1), (3, 1)]) (cells := [_, _, _, .slice none 0 0]) ty50 kQ rfl (fill_stepL (c := [_]) (l := [_, _, _, _]) (l' := [_, _, _, _]) rfl (cells_one rfl) rfl lB rfl (fill_stepL (c := [_]) (l := [_, _, _, _]) (l' := [_, _, _, _]) rfl (cells_one rfl) rfl lB rfl (fill_stepL (c := [_]) (l := [_, _, _, _]) (l' := [_, _, _, _]) rfl (cells_one (sl_one' hz_1_7)) rfl lB rfl (fill_endL rfl))))) fun a hF => ?_
   refine gQ 9 rfl rfl hF hS rfl (ef_allocA ty50) ?_
   rintro _ _ _ a w ⟨b_1_9, rfl, rfl, rfl⟩ hF hS
   refine ⟨⟨.inr (hS.keep sQ zQ), iQ, iQ, iQ, iQ, .inr hS.k0, .inr (hS.k1 (sN4)), .inr (hS.k1 (zQ.k.n.n.n)), trivial⟩, ?_⟩
   refine gQ 10 rfl rfl hF hS rfl (ef_storeW ty50 0 rfl rfl rfl rfl bQ (oc_cons rfl (oc_cons rfl (oc_cons (sl_one' hz_1_7) (oc_cons rfl oc_nil)))) bQ) ?_
   rintro _ _ _ a w ⟨rfl, rfl, rfl⟩ hF hS
   refine ⟨⟨iQ, iQ, iQ, iQ, iQ, iQ, iQ, iQ, trivial⟩, ?_⟩
   exact goW_done kQ (j3_mk v_1_7 z_1_7 b_1_9 ((And.intro hz_1_7 trivial)) (hF.sub (L' := [(3, _), (4, _), (5, _), (6, _), (7, _)]) ⟨rfl, rfl, rfl, rfl, rfl, trivial⟩) hS)
  ·refine stepW_ef _ rfl rfl hF hS rfl (ef_allocA ty50) ?_
   rintro _ _ _ a w ⟨b_1_9, rfl, rfl, rfl⟩ hF hS
   refine ⟨⟨.inr hS.k0, .inr (hS.k1 (zQ.k.n.n)), .inr (hS.k1 (zQ.k.n.n.n)), .inr (hS.k1 (sN4)), .inr hS.k0, .inr (hS.k1 (sN4)), .inr (hS.k1 (zQ.k.n.n.n)), trivial⟩, ?_⟩
   refine gQ 7 rfl rfl hF hS rfl (ef_call fn63 rfl (fun w hS => cloneL_ct _ _ (by first | with_reducible assumption | omega | (simp; omega)) w (Sl.mono (hS.le zin0) (Sl.cut hb omQ)))) ?_
   rintro v_1_7 _ _ a w ⟨_, _, rfl, rfl, ⟨z_1_7, hz_1_7, rfl, rfl⟩⟩ hF hS
   refine ⟨⟨iQ, iQ, iQ, iQ, .inr hS.k0, .inr (hS.k1 (sN4)), .inr (hS.k1 (zQ.k.n.n.n)), trivial⟩, ?_⟩
   refine tQ 8 rfl hF (hS.keep sQ zQ) (q_buildP (places := [(0, 1), (1, 1), (2, 1), (3, 1)]) (cells := [_, _, _, .slice none 0 0]) ty50 kQ rfl (fill_stepL (c := [_]) (l := [_, _, _, _]) (l' := [_, _, _, _]) rfl (cells_one rfl) rfl lB rfl (fill_stepL (c := [_]) (l := [_, _, _, _]) (l' := [_, _, _, _]) rfl (cells_one rfl) rfl lB rfl (fill_stepL (c := [_]) (l := [_, _, _, _]) (l' := [_, _, _, _]) rfl (cells_one (sl_one' hz_1_7)) rfl lB rfl (fill_endL rfl))))) fun a hF => ?_
   refine gQ 10 rfl rfl hF hS rfl (ef_storeW ty50 0 rfl rfl rfl rfl bQ (oc_cons rfl (oc_cons rfl (oc_cons (sl_one' hz_1_7) (oc_cons rfl oc_nil)))) bQ) ?_
   rintro _ _ _ a w ⟨rfl, rfl, rfl⟩ hF hS
   refine ⟨⟨iQ, iQ, iQ, iQ, iQ, iQ, iQ, iQ, trivial⟩, ?_⟩
   exact goW_done kQ (j3_mk v_1_7 z_1_7 b_1_9 ((And.intro hz_1_7 trivial)) (hF.sub (L' := [(3, _), (4, _), (5, _), (6, _), (7, _)]) ⟨rfl, rfl, rfl, rfl, rfl, trivial⟩) hS)
 rintro a w ⟨v_1_7, z_1_7, b_1_9, ⟨hz_1_7, -⟩, hF, hS⟩
 (try dsimp only at hF hS)
 replace hS := hS.nilRow 29 16
 refine hK2 _ _ ?_
 refine reglS fun K3 hK3 => ?_
 refine eQ hF hS rfl (ef_alloc1 ty139 (by rfl)) ?_
 rintro _ _ _ a w ⟨b6, rfl, rfl, rfl⟩ hF hS
 refine wpList_nil (hK3 _ _ ?_)
 refine reglS fun K4 hK4 => ?_
 refine lQ hF hS (q0 (q_mkf rfl rfl) <| sq_end) fun a w hF hS => ?_
 refine eQ hF hS rfl (ef_store1 ty139 0 rfl rfl rfl rfl (by simp)) ?_
 rintro _ _ _ a w ⟨rfl, rfl, rfl⟩ hF hS
 (try simp only [sC] at hS)
 replace hS : St _ [_] [_, _, _, _, _, _, _] _ := hS
 refine wpList_nil (hK4 _ _ ?_)
 refine k0 ?_; intro K5 hK5
 refine regS hF hS (q0 (q_ld_blk1 ty33 6 rfl rfl rfl rfl) <| q0 (q_len_sl ty33 hb rfl) <| q0 (q_gti rfl rfl) <| sq_end) fun a w hF hS => ?_
 refine wp_ifd hF rfl (fun hc1 => ?_) (fun hc1 => ?_)
 ·have hb1 := Mk.sides_bd (ls := ls) (first := first) (en := en) ls.length ls.length 0 omQ (Nat.le_refl _) omQ
  rw [Mk.sub_all] at hb1
  refine regl ?_
  refine lQ hF hS (q0 (q_ld_blk1 ty139 0 rfl rfl rfl rfl) <| q0 (q_ld_blk1 ty33 6 rfl rfl rfl rfl) <| q0 (q_len_sl ty33 hb rfl) <| sq_end) fun a w hF hS => ?_
  replace hS := hS.perm P0_4
  replace hS := hS.perm P1_4
  replace hS := hS.perm (.cons _ (.cons _ (.cons _ (.swap _ _ _))))
  replace hS := hS.perm (.cons _ (.cons _ (.swap _ _ _)))
  replace hS := hS.perm (.cons _ (.cons _ (.cons _ (.cons _ (.cons _ (.swap _ _ _))))))
  replace hS := hS.perm (.cons _ (.cons _ (.cons _ (.cons _ (.swap _ _ _)))))
  replace hS := hS.perm (.cons _ (.cons _ (.cons _ (.swap _ _ _))))
  replace hS : St _ [_] [_, _, _, _, _, _, _] _ := hS
  refine eQ hF hS rfl (ef_callvxN 6 fn91 rfl rfl (by exact (shown_all _ _ _ _ _ _ _ _ _ ls first en rfl rfl (sl_one' hz_1_7) hl hx omQ omQ _ _ _ _ hb hg1 ls.length _ _ 0 ls.length (.slice none 0 0) [] rfl omQ omQ (Nat.le_refl _) omQ (by rw [List.length_nil]; omega) ))) ?_
  rintro _ _ _ a w ⟨_, _, rfl, rfl, ⟨p8, rfl, rfl, rfl⟩⟩ hF hS
  replace hS : St _ [_] [_, _, _, _, _, _, _] _ := hS
  refine wpList_nil (hK5 _ _ ?_)
  refine reglS fun K7 hK7 => ?_
  refine lQ hF hS (q0 (q_ld_blkW ty50 2 rfl rfl bQ rfl) <| sq_end) fun a w hF hS => ?_
  refine eQ hF hS rfl (ef_storeW ty50 6 rfl rfl rfl rfl bQ (oc_cons rfl (oc_cons rfl (oc_cons (sl_one' hz_1_7) (oc_cons (row_one (hS.ow 5 rfl)) oc_nil)))) bQ) ?_
  rintro _ _ _ a w ⟨rfl, rfl, rfl⟩ hF hS
  replace hS : St _ [_] [_, _, _, _, _, _, _] _ := hS
  refine wpList_nil (hK7 _ _ ?_)
  refine wp_ret ?_
  replace hS := hS.perm P0_4
  obtain ⟨zm, hzm, hS⟩ := St.freezeA (m := 16) (l := Mk.sidesD first en ls 0) (hS.rowEq (m' := List.length (Mk.sidesD first en ls 0)) (cs' := List.map vb (List.flatten (Mk.sidesD first en ls 0))) (by rw [Mk.sub_all]; rfl) (by rw [Mk.sub_all]; rfl)) rfl omQ (hb1.2)
  replace hS : St _ [_, _] [_, _, _, _, _, _] _ := hS
  replace hS := hS.zone00
  replace hS : St _ [_, _, _] [_, _, _, _, _, _] _ := hS
  obtain ⟨zu, hzu, hS⟩ := hS.union
  exact fn_ret (rs := [.cell 6 50]) rfl hF hS (vs := [_]) ⟨⟨_, _, _, _, _, _, _, rfl, List.mem_of_getElem? (i := 5) rfl, ty50, .inl ⟨rfl, bQ, rfl⟩⟩, trivial⟩ (zs' := [zu]) (hs' := []) (List.singleton_sublist.2 (by simp)) zQ (pf_of (q := ⟨(first : Int), (ls.length : Int), ((ls.take en).drop first), Mk.sidesD first en ls 0⟩) ⟨_, _, zu, rfl, Sl.mono (hzu _ (by simp)) hz_1_7, Sl.mono (hzu _ (by simp)) hzm, rfl, rfl⟩ (by unfold Mk.shown; rw [if_neg omQ]))
 ·refine wp_skip ?_
  refine hK5 _ _ ?_
  refine reglS fun K8 hK8 => ?_
  refine lQ hF hS (q0 (q_ld_blkW ty50 2 rfl rfl bQ rfl) <| sq_end) fun a w hF hS => ?_
  refine eQ hF hS rfl (ef_storeW ty50 3 rfl rfl rfl rfl bQ (oc_cons rfl (oc_cons rfl (oc_cons (sl_one' hz_1_7) (oc_cons (row_one (hS.ow 1 rfl)) oc_nil)))) bQ) ?_
  rintro _ _ _ a w ⟨rfl, rfl, rfl⟩ hF hS
  replace hS : St _ [_] [_, _, _, _, _, _, _] _ := hS
  refine wpList_nil (hK8 _ _ ?_)
  refine wp_ret ?_
  replace hS := hS.perm (.swap _ _ _)
  obtain ⟨zm, hzm, hS⟩ := St.freezeA (m := 16) (l := ([] : List Mk.Dg)) (hS.rowEq (m' := List.length (([] : List Mk.Dg))) (cs' := List.map vb (List.flatten (([] : List Mk.Dg)))) (rfl) (rfl)) rfl deQ (fun _ h => by cases h)
  replace hS : St _ [_, _] [_, _, _, _, _, _] _ := hS
  replace hS := hS.zone00
  replace hS : St _ [_, _, _] [_, _, _, _, _, _] _ := hS
  obtain ⟨zu, hzu, hS⟩ := hS.union
  exact fn_ret (rs := [.cell 6 50]) rfl hF hS (vs := [_]) ⟨⟨_, _, _, _, _, _, _, rfl, List.mem_of_getElem? (i := 2) rfl, ty50, .inl ⟨rfl, bQ, rfl⟩⟩, trivial⟩ (zs' := [zu]) (hs' := []) (List.singleton_sublist.2 (by simp)) zQ (pf_of (q := ⟨(first : Int), (ls.length : Int), ((ls.take en).drop first), []⟩) ⟨_, _, zu, rfl, Sl.mono (hzu _ (by simp)) hz_1_7, Sl.mono (hzu _ (by simp)) hzm, rfl, rfl⟩ (by unfold Mk.shown; rw [if_pos omQ]))
end
section
theorem fn35 : FnOk Tryd.prog 35 := fQ Tryd.func35
theorem fn56 : FnOk Tryd.prog 56 := fQ Tryd.func56
theorem fn57 : FnOk Tryd.prog 57 := fQ Tryd.func57
theorem fn58 : FnOk Tryd.prog 58 := fQ Tryd.func58
theorem fn59 : FnOk Tryd.prog 59 := fQ Tryd.func59
attribute [local irreducible] Sha.sum Sha.mac Sha.ofD Wi.int Wi.ints Wi.bytes Sha.inp Mk.half Lib.compareBytes Mk.frm
theorem prove_ct (v : Value) (ls : List Mk.Lf) (k : List UInt8) (w : World) (hb : Sl encF (ph w) v ls) {fz1 : Nat × Nat} {bt1 : TypeId} (hg1 : w.heap[2]? = some (.cells (Sha.kc.map vw).toArray bt1 fz1)) : Ct Tryd.prog 22 [v, vs k] w (PfE (Mk.provE ls k).1 (Mk.provE ls k).2) := by
 refine fn_enter Tryd.func22 rfl Tryd.ntmps22 lB fun a hF hS => ?_
 have hbl := hb.1
 refine reglS fun K1 hK1 => ?_
 refine eQ hF hS rfl (ef_allocA ty50) ?_
 rintro _ _ _ a w ⟨b1, rfl, rfl, rfl⟩ hF hS
 refine lQ hF hS (aQ rfl <| sq_end) fun a w hF hS => ?_
 refine wpList_nil (hK1 _ _ ?_)
 refine k0 ?_; intro K2 hK2
 refine regS hF hS (mQ rfl <| q0 (q_call fn15 rfl (fun w hS => valid_ct _ _ w (Sl.mono (hS.le zin0) hb)) hI) <| aQ rfl <| sq_end) fun a w hF hS => ?_
 refine regS hF hS (mQ rfl <| q0 (q_nei rfl rfl) <| sq_end) fun a w hF hS => ?_
 refine wp_ifn hF rfl (fun hc1 => ?_) (fun hc1 => ?_)
 ·have hv0 : ¬ Mk.vE ls = 0 := by simpa using hc1
  refine reglS fun K5 hK5 => ?_
  refine lQ hF hS (q0 (q_buildP (places := [(0, 1), (1, 1), (2, 1), (3, 1)]) (cells := [.int .i64 0, .int .i64 0, .slice none 0 0, .slice none 0 0]) ty50 kQ rfl (by rfl)) <| mQ rfl <| sq_end) fun a w hF hS => ?_
  refine eQ hF hS rfl (ef_storeW ty50 0 rfl rfl rfl rfl bQ (oc_cons rfl (oc_cons rfl (oc_cons rfl (oc_cons rfl oc_nil)))) bQ) ?_
  rintro _ _ _ a w ⟨rfl, rfl, rfl⟩ hF hS
  replace hS := nl0_1 hS
  refine lQ hF hS (aQ rfl <| sq_end) fun a w hF hS => ?_
  refine wpList_nil (hK5 _ _ ?_)
  refine wp_ret ?_
  replace hS := hS.zone00
  replace hS := nl1_1 hS
  obtain ⟨zu, hzu, hS⟩ := hS.union
  exact fn_ret (rs := [.cell 4 50, .tmp 5]) rfl hF hS (vs := [_, _]) ⟨⟨_, _, _, _, _, _, _, rfl, List.mem_of_getElem? (i := 0) rfl, ty50, .inl ⟨rfl, bQ, rfl⟩⟩, rfl, trivial⟩ (zs' := [zu]) (hs' := []) (List.singleton_sublist.2 (by simp)) zQ (pe_of (q := Mk.pf0) ⟨_, _, zu, rfl, sl_nil, sl_nil, rfl, rfl⟩ (by rw [Mk.provE_e hv0]) (by rw [Mk.provE_e hv0]))
 ·have hv0 : Mk.vE ls = 0 := by simpa using hc1
  have hva := Mk.vE_asc hv0
  have hx9 : ∀ x ∈ ls, x.1.length < 1048576 ∧ x.2.length < 1048576 := fun x hx => by have := hva.2.2 x hx; omega
  have hfl := Mk.frm_le ls k
  refine wp_skip ?_
  refine hK2 _ _ ?_
  refine regS hF hS (mQ rfl <| mQ rfl <| q0 (q_call fn56 rfl (fun w hS => from_ct _ _ _ hva.1 omQ w (Sl.mono (hS.le zin0) hb)) hI) <| aQ rfl <| sq_end) fun a w hF hS => ?_
  refine k0 ?_; intro K7 hK7
  refine reglS fun K8 hK8 => ?_
  refine lQ hF hS (mQ rfl <| mQ rfl <| q0 (q_len_sl ty33 hb rfl) <| q0 (q_lti rfl rfl) <| mQ rfl <| sq_end) fun a w hF hS => ?_
  refine wpl_and 4 21 7 hF hS rfl rfl rfl rfl rfl (fun hg => have hg := (by first | exact of_decide_eq_true hg | exact hg); sq_go 21 rfl rfl rfl (q_move rfl) <| sq_go 21 rfl rfl rfl (q_move rfl) <| sq_go 21 rfl rfl rfl (q_idx_sl ty33 ty41 hb rfl rfl omQ) <| sq_go 21 rfl rfl rfl (q_fld_F ty41 hb rfl omQ rfl (s' := 0) kQ) <| sq_go 21 rfl rfl rfl (q_ld_FK ty9 hb zin0 rfl rfl omQ) <| sq_go 21 rfl rfl rfl (q_move rfl) <| sq_go 21 rfl rfl rfl (q_eqs rfl rfl) <| sq_end) rfl rfl fun a w hF hS => ?_
  refine wpList_nil (hK8 _ _ ?_)
  refine wp_if hF rfl (fun hc2 => ?_) (fun hc2 => ?_)
  ·(try simp only [bS] at hc2)
   have hfd : Mk.fnd ls k = true := by
    simp only [Int.toNat_natCast] at hc2
    exact Mk.fnd_t omQ hc2.2
   have hfd2 := (Mk.fnd_iff.1 hfd).1
   refine reglS fun K9 hK9 => ?_
   refine lQ hF hS (mQ rfl <| mQ rfl <| mQ rfl <| pQ rfl rfl <| sq_end) fun a w hF hS => ?_
   refine eQ hF hS rfl (ef_call fn57 rfl (fun w hS => shown_ct _ ls (Mk.frm ls k) (Mk.frm ls k + 1) _ _ rfl omQ omQ hx9 omQ omQ w (Sl.mono (hS.le zin0) hb) (hS.ext _ _ hg1))) ?_
   rintro _ _ _ a w ⟨_, _, rfl, rfl, ⟨l3, s4, z5, rfl, hl6, hs7, rfl, rfl⟩⟩ hF hS
   replace hS := nl1_1 hS
   refine eQ hF hS rfl (ef_storeW ty50 0 rfl rfl rfl rfl bQ (oc_cons rfl (oc_cons rfl (oc_cons (sl_one' hl6) (oc_cons (sl_one' hs7) oc_nil)))) bQ) ?_
   rintro _ _ _ a w ⟨rfl, rfl, rfl⟩ hF hS
   replace hS := nl1_1 hS
   refine lQ hF hS (aQ rfl <| sq_end) fun a w hF hS => ?_
   refine wpList_nil (hK9 _ _ ?_)
   refine wp_ret ?_
   replace hS := hS.zone00
   replace hS := nl2_1 hS
   obtain ⟨zu, hzu, hS⟩ := hS.union
   exact fn_ret (rs := [.cell 4 50, .tmp 5]) rfl hF hS (vs := [_, _]) ⟨⟨_, _, _, _, _, _, _, rfl, List.mem_of_getElem? (i := 0) rfl, ty50, .inl ⟨rfl, bQ, rfl⟩⟩, rfl, trivial⟩ (zs' := [zu]) (hs' := []) (List.singleton_sublist.2 (by simp)) zQ (pe_of (q := Mk.shown ls (Mk.frm ls k) (Mk.frm ls k + 1)) ⟨_, _, zu, rfl, Sl.mono (hzu _ (by simp)) hl6, Sl.mono (hzu _ (by simp)) hs7, rfl, rfl⟩ (by rw [Mk.provE_t hv0 hfd]) (by rw [Mk.provE_t hv0 hfd]))
  ·(try simp only [bS] at hc2)
   have hfd : Mk.fnd ls k = false := by
    simp only [Int.toNat_natCast] at hc2
    exact Mk.fnd_f (fun h9 => by rcases hc2 with h | h; exact h omQ; exact h h9.2)
   refine wp_skip ?_
   refine hK7 _ _ ?_
   refine reglS fun K10 hK10 => ?_
   refine lQ hF hS (mQ rfl <| mQ rfl <| dQ rfl rfl <| q0 (q_max rfl rfl) <| mQ rfl <| pQ rfl rfl <| mQ rfl <| q0 (q_len_sl ty33 hb rfl) <| q0 (q_min rfl rfl) <| sq_end) fun a w hF hS => ?_
   refine eQ hF hS rfl (ef_call fn57 rfl (fun w hS => shown_ct _ ls (Mk.frm ls k - 1) (min (Mk.frm ls k + 1) ls.length) _ _ omQ omQ omQ hx9 omQ omQ w (Sl.mono (hS.le zin0) hb) (hS.ext _ _ hg1))) ?_
   rintro _ _ _ a w ⟨_, _, rfl, rfl, ⟨l9, s10, z11, rfl, hl12, hs13, rfl, rfl⟩⟩ hF hS
   replace hS := nl1_1 hS
   refine eQ hF hS rfl (ef_storeW ty50 0 rfl rfl rfl rfl bQ (oc_cons rfl (oc_cons rfl (oc_cons (sl_one' hl12) (oc_cons (sl_one' hs13) oc_nil)))) bQ) ?_
   rintro _ _ _ a w ⟨rfl, rfl, rfl⟩ hF hS
   replace hS := nl1_1 hS
   refine lQ hF hS (aQ rfl <| sq_end) fun a w hF hS => ?_
   refine wpList_nil (hK10 _ _ ?_)
   refine wp_ret ?_
   replace hS := hS.zone00
   replace hS := nl2_1 hS
   obtain ⟨zu, hzu, hS⟩ := hS.union
   exact fn_ret (rs := [.cell 4 50, .tmp 5]) rfl hF hS (vs := [_, _]) ⟨⟨_, _, _, _, _, _, _, rfl, List.mem_of_getElem? (i := 0) rfl, ty50, .inl ⟨rfl, bQ, rfl⟩⟩, rfl, trivial⟩ (zs' := [zu]) (hs' := []) (List.singleton_sublist.2 (by simp)) zQ (pe_of (q := Mk.shown ls (Mk.frm ls k - 1) (min (Mk.frm ls k + 1) ls.length)) ⟨_, _, zu, rfl, Sl.mono (hzu _ (by simp)) hl12, Sl.mono (hzu _ (by simp)) hs13, rfl, rfl⟩ (by rw [Mk.provE_f hv0 hfd]) (by rw [Mk.provE_f hv0 hfd]))
theorem range_ct (v : Value) (ls : List Mk.Lf) (k m : List UInt8) (w : World) (hb : Sl encF (ph w) v ls) {fz1 : Nat × Nat} {bt1 : TypeId} (hg1 : w.heap[2]? = some (.cells (Sha.kc.map vw).toArray bt1 fz1)) : Ct Tryd.prog 24 [v, vs k, vs m] w (PfE (Mk.rangE ls k m).1 (Mk.rangE ls k m).2) := by
 refine fn_enter Tryd.func24 rfl Tryd.ntmps24 lB fun a hF hS => ?_
 have hbl := hb.1
 refine reglS fun K1 hK1 => ?_
 refine eQ hF hS rfl (ef_allocA ty50) ?_
 rintro _ _ _ a w ⟨b1, rfl, rfl, rfl⟩ hF hS
 refine lQ hF hS (aQ rfl <| sq_end) fun a w hF hS => ?_
 refine wpList_nil (hK1 _ _ ?_)
 refine k0 ?_; intro K2 hK2
 refine regS hF hS (mQ rfl <| q0 (q_call fn15 rfl (fun w hS => valid_ct _ _ w (Sl.mono (hS.le zin0) hb)) hI) <| aQ rfl <| sq_end) fun a w hF hS => ?_
 refine regS hF hS (mQ rfl <| q0 (q_nei rfl rfl) <| sq_end) fun a w hF hS => ?_
 refine wp_ifn hF rfl (fun hc1 => ?_) (fun hc1 => ?_)
 ·have hv0 : ¬ Mk.vE ls = 0 := by simpa using hc1
  refine reglS fun K5 hK5 => ?_
  refine lQ hF hS (q0 (q_buildP (places := [(0, 1), (1, 1), (2, 1), (3, 1)]) (cells := [.int .i64 0, .int .i64 0, .slice none 0 0, .slice none 0 0]) ty50 kQ rfl (by rfl)) <| mQ rfl <| sq_end) fun a w hF hS => ?_
  refine eQ hF hS rfl (ef_storeW ty50 0 rfl rfl rfl rfl bQ (oc_cons rfl (oc_cons rfl (oc_cons rfl (oc_cons rfl oc_nil)))) bQ) ?_
  rintro _ _ _ a w ⟨rfl, rfl, rfl⟩ hF hS
  replace hS := nl0_1 hS
  refine lQ hF hS (aQ rfl <| sq_end) fun a w hF hS => ?_
  refine wpList_nil (hK5 _ _ ?_)
  refine wp_ret ?_
  replace hS := hS.zone00
  replace hS := nl1_1 hS
  obtain ⟨zu, hzu, hS⟩ := hS.union
  exact fn_ret (rs := [.cell 6 50, .tmp 7]) rfl hF hS (vs := [_, _]) ⟨⟨_, _, _, _, _, _, _, rfl, List.mem_of_getElem? (i := 0) rfl, ty50, .inl ⟨rfl, bQ, rfl⟩⟩, rfl, trivial⟩ (zs' := [zu]) (hs' := []) (List.singleton_sublist.2 (by simp)) zQ (pe_of (q := Mk.pf0) ⟨_, _, zu, rfl, sl_nil, sl_nil, rfl, rfl⟩ (by rw [Mk.rangE_e hv0]) (by rw [Mk.rangE_e hv0]))
 ·have hv0 : Mk.vE ls = 0 := by simpa using hc1
  have hva := Mk.vE_asc hv0
  have hx9 : ∀ x ∈ ls, x.1.length < 1048576 ∧ x.2.length < 1048576 := fun x hx => by have := hva.2.2 x hx; omega
  have hfl := Mk.frm_le ls k
  have hfm := Mk.frm_le ls m
  refine wp_skip ?_
  refine hK2 _ _ ?_
  refine k0 ?_; intro K6 hK6
  refine regS hF hS (mQ rfl <| mQ rfl <| q0 (q_lts rfl rfl) <| sq_end) fun a w hF hS => ?_
  refine wp_if hF rfl (fun hc2 => ?_) (fun hc2 => ?_)
  ·have hlm : Mk.lt m k = true := hc2
   refine reglS fun K8 hK8 => ?_
   refine lQ hF hS (q0 (q_buildP (places := [(0, 1), (1, 1), (2, 1), (3, 1)]) (cells := [.int .i64 0, .int .i64 0, .slice none 0 0, .slice none 0 0]) ty50 kQ rfl (by rfl)) <| sq_end) fun a w hF hS => ?_
   refine eQ hF hS rfl (ef_storeW ty50 0 rfl rfl rfl rfl bQ (oc_cons rfl (oc_cons rfl (oc_cons rfl (oc_cons rfl oc_nil)))) bQ) ?_
   rintro _ _ _ a w ⟨rfl, rfl, rfl⟩ hF hS
   replace hS := nl0_1 hS
   refine lQ hF hS (aQ rfl <| sq_end) fun a w hF hS => ?_
   refine wpList_nil (hK8 _ _ ?_)
   refine wp_ret ?_
   replace hS := hS.zone00
   replace hS := nl1_1 hS
   obtain ⟨zu, hzu, hS⟩ := hS.union
   exact fn_ret (rs := [.cell 6 50, .tmp 7]) rfl hF hS (vs := [_, _]) ⟨⟨_, _, _, _, _, _, _, rfl, List.mem_of_getElem? (i := 0) rfl, ty50, .inl ⟨rfl, bQ, rfl⟩⟩, rfl, trivial⟩ (zs' := [zu]) (hs' := []) (List.singleton_sublist.2 (by simp)) zQ (pe_of (q := Mk.pf0) ⟨_, _, zu, rfl, sl_nil, sl_nil, rfl, rfl⟩ (by rw [Mk.rangE_t hv0 hlm]) (by rw [Mk.rangE_t hv0 hlm]))
  ·have hlm : Mk.lt m k = false := hc2
   have hmo := Mk.frm_mono (ls := ls) hlm
   refine wp_skip ?_
   refine hK6 _ _ ?_
   refine reglS fun K9 hK9 => ?_
   refine lQ hF hS (mQ rfl <| mQ rfl <| mQ rfl <| q0 (q_call fn56 rfl (fun w hS => from_ct _ _ _ hva.1 omQ w (Sl.mono (hS.le zin0) hb)) hI) <| dQ rfl rfl <| q0 (q_max rfl rfl) <| mQ rfl <| mQ rfl <| q0 (q_call fn56 rfl (fun w hS => from_ct _ _ _ hva.1 omQ w (Sl.mono (hS.le zin0) hb)) hI) <| pQ rfl rfl <| mQ rfl <| q0 (q_len_sl ty33 hb rfl) <| q0 (q_min rfl rfl) <| sq_end) fun a w hF hS => ?_
   refine eQ hF hS rfl (ef_call fn57 rfl (fun w hS => shown_ct _ ls (Mk.frm ls k - 1) (min (Mk.frm ls m + 1) ls.length) _ _ omQ omQ omQ hx9 omQ omQ w (Sl.mono (hS.le zin0) hb) (hS.ext _ _ hg1))) ?_
   rintro _ _ _ a w ⟨_, _, rfl, rfl, ⟨l3, s4, z5, rfl, hl6, hs7, rfl, rfl⟩⟩ hF hS
   replace hS := nl1_1 hS
   refine eQ hF hS rfl (ef_storeW ty50 0 rfl rfl rfl rfl bQ (oc_cons rfl (oc_cons rfl (oc_cons (sl_one' hl6) (oc_cons (sl_one' hs7) oc_nil)))) bQ) ?_
   rintro _ _ _ a w ⟨rfl, rfl, rfl⟩ hF hS
   replace hS := nl1_1 hS
   refine lQ hF hS (aQ rfl <| sq_end) fun a w hF hS => ?_
   refine wpList_nil (hK9 _ _ ?_)
   refine wp_ret ?_
   replace hS := hS.zone00
   replace hS := nl2_1 hS
   obtain ⟨zu, hzu, hS⟩ := hS.union
   exact fn_ret (rs := [.cell 6 50, .tmp 7]) rfl hF hS (vs := [_, _]) ⟨⟨_, _, _, _, _, _, _, rfl, List.mem_of_getElem? (i := 0) rfl, ty50, .inl ⟨rfl, bQ, rfl⟩⟩, rfl, trivial⟩ (zs' := [zu]) (hs' := []) (List.singleton_sublist.2 (by simp)) zQ (pe_of (q := Mk.shown ls (Mk.frm ls k - 1) (min (Mk.frm ls m + 1) ls.length)) ⟨_, _, zu, rfl, Sl.mono (hzu _ (by simp)) hl6, Sl.mono (hzu _ (by simp)) hs7, rfl, rfl⟩ (by rw [Mk.rangE_f hv0 hlm]) (by rw [Mk.rangE_f hv0 hlm]))
theorem rfrom_ct (v : Value) (ls : List Mk.Lf) (k : List UInt8) (w : World) (hb : Sl encF (ph w) v ls) : Ct Tryd.prog 58 [v, vs k] w (fun r _ _ => r = vi (Mk.frm ls k : Int)) := by
 refine fn_enter Tryd.func58 rfl Tryd.ntmps58 lB fun a hF hS => ?_
 have hbl := hb.1
 have hfu := Mk.frm_def ls k
 refine regS hF hS (aQ rfl <| sq_end) fun a w hF hS => ?_
 refine regS hF hS (aQ rfl <| sq_end) fun a w hF hS => ?_
 refine k0 ?_; intro K3 hK3
 refine regS hF hS (aQ rfl <| sq_end) fun a w hF hS => ?_
 refine wp_block ?_
 obtain ⟨hs0, hhs0, hS⟩ := hS.oh
 refine wp_loopx (γ := Int) (0) (fun (i : Int) => [(5, vi (Mk.frN ls k i.toNat : Int)), (6, vi i)]) [(0, _), (1, _)] (fun (i : Int) => hs0) (fun (i : Int) => 0 ≤ i ∧ i ≤ ls.length) (fun (i : Int) => (ls.length - i).toNat) (hF.sub ⟨rfl, rfl, rfl, rfl, trivial⟩) (by subst hhs0; exact hS) (by exact ⟨Int.le_refl _, by omega⟩) ?_
 rintro i a w hfact hF hS
 subst hhs0; (try dsimp only at hfact hF hS)
 obtain ⟨hi0, hi1⟩ := hfact
 replace hS : St _ [] [] _ := hS
 have hfn := Mk.frN_le ls k i.toNat
 refine k0 ?_; intro K5 hK5
 refine regS hF hS (mQ rfl <| mQ rfl <| q0 (q_len_sl ty24 hb rfl) <| q0 (q_lti rfl rfl) <| sq_end) fun a w hF hS => ?_
 refine wp_ifd hF rfl (fun hc1 => ?_) (fun hc1 => ?_)
 ·refine wp_skip ?_
  refine hK5 _ _ ?_
  refine k0 ?_; intro K7 hK7
  refine wp_block ?_
  refine regS hF hS (mQ rfl <| mQ rfl <| q0 (q_idx_sl ty24 ty75 hb rfl rfl omQ) <| q0 (q_fld_F ty75 hb rfl omQ rfl (s' := 0) kQ) <| q0 (q_ld_FK ty9 hb zin0 rfl rfl omQ) <| mQ rfl <| q0 (q_lts rfl rfl) <| sq_end) fun a w hF hS => ?_
  refine wp_if hF rfl (fun hc2 => ?_) (fun hc2 => ?_)
  ·have hlt : Mk.lt (ls.getD i.toNat kv0).1 k = true := hc2
   refine reg hF hS (mQ rfl <| pQ rfl rfl <| aQ rfl <| sq_end) fun a w hF hS => ?_
   refine hK7 _ _ ?_
   refine reg hF hS (mQ rfl <| pQ rfl rfl <| aQ rfl <| sq_end) fun a w hF hS => ?_
   refine ⟨(i + 1), ?_, ?_, hF.sub ⟨(by rw [show (i + 1).toNat = i.toNat + 1 by omega, Mk.frN_succ, if_pos hlt]; rfl), rfl, rfl, rfl, trivial⟩, ?_⟩
   ·(try dsimp only); omega
   ·omega
   ·exact hS
  ·have hlt : ¬ Mk.lt (ls.getD i.toNat kv0).1 k = true := fun h9 => by rw [show Op.bytesLess (ls.getD i.toNat kv0).1 k = true from h9] at hc2; cases hc2
   refine wp_skip ?_
   refine hK7 _ _ ?_
   refine reg hF hS (mQ rfl <| pQ rfl rfl <| aQ rfl <| sq_end) fun a w hF hS => ?_
   refine ⟨(i + 1), ?_, ?_, hF.sub ⟨(by rw [show (i + 1).toNat = i.toNat + 1 by omega, Mk.frN_succ, if_neg hlt]; rfl), rfl, rfl, rfl, trivial⟩, ?_⟩
   ·(try dsimp only); omega
   ·omega
   ·exact hS
 ·obtain rfl : i = ls.length := by omega
  rw [Int.toNat_natCast] at hF
  refine wp_exit ?_
  refine hK3 _ _ ?_
  refine regS hF hS (mQ rfl <| aQ rfl <| sq_end) fun a w hF hS => ?_
  refine wp_ret ?_
  exact fn_ret (rs := [.tmp 4]) rfl hF hS (vs := [_]) ⟨rfl, trivial⟩ zQ zQ (by rw [hfu])
theorem rhas_ct (v : Value) (ls : List Mk.Lf) (k : List UInt8) (w : World) (hb : Sl encF (ph w) v ls) : Ct Tryd.prog 35 [v, vs k] w (fun r _ _ => r = vi (Mk.hasI ls k)) := by
 refine fn_enter Tryd.func35 rfl Tryd.ntmps35 lB fun a hF hS => ?_
 have hbl := hb.1
 refine regS hF hS (aQ rfl <| sq_end) fun a w hF hS => ?_
 refine k0 ?_; intro K2 hK2
 refine regS hF hS (aQ rfl <| sq_end) fun a w hF hS => ?_
 refine wp_block ?_
 obtain ⟨hs0, hhs0, hS⟩ := hS.oh
 refine wp_loopx (γ := Int) (0) (fun (i : Int) => [(5, vi i)]) [(0, _), (1, _)] (fun (i : Int) => hs0) (fun (i : Int) => 0 ≤ i ∧ i ≤ ls.length ∧ ∀ j, j < i.toNat → decide ((ls.getD j kv0).1 = k) = false) (fun (i : Int) => (ls.length - i).toNat) (hF.sub ⟨rfl, rfl, rfl, trivial⟩) (by subst hhs0; exact hS) (by exact ⟨Int.le_refl _, by omega, fun j hj => absurd hj (by simp)⟩) ?_
 rintro i a w hfact hF hS
 subst hhs0; (try dsimp only at hfact hF hS)
 obtain ⟨hi0, hi1, hno⟩ := hfact
 replace hS : St _ [] [] _ := hS
 refine k0 ?_; intro K4 hK4
 refine regS hF hS (mQ rfl <| mQ rfl <| q0 (q_len_sl ty24 hb rfl) <| q0 (q_lti rfl rfl) <| sq_end) fun a w hF hS => ?_
 refine wp_ifd hF rfl (fun hc1 => ?_) (fun hc1 => ?_)
 ·refine wp_skip ?_
  refine hK4 _ _ ?_
  refine k0 ?_; intro K6 hK6
  refine wp_block ?_
  refine regS hF hS (mQ rfl <| mQ rfl <| q0 (q_idx_sl ty24 ty75 hb rfl rfl omQ) <| q0 (q_fld_F ty75 hb rfl omQ rfl (s' := 0) kQ) <| q0 (q_ld_FK ty9 hb zin0 rfl rfl omQ) <| mQ rfl <| q0 (q_eqs rfl rfl) <| sq_end) fun a w hF hS => ?_
  refine wp_ifd hF rfl (fun hc2 => ?_) (fun hc2 => ?_)
  ·refine k0 ?_; intro K8 hK8
   refine reg hF hS (mQ rfl <| aQ rfl <| sq_end) fun a w hF hS => ?_
   refine hK8 _ _ ?_
   refine wp_ret ?_
   exact fn_ret (rs := [.tmp 4]) rfl hF hS (vs := [_]) ⟨rfl, trivial⟩ zQ zQ (by rw [Mk.hasI_at (i := i.toNat) omQ hc2 hno, Int.toNat_of_nonneg hi0])
  ·refine wp_skip ?_
   refine hK6 _ _ ?_
   refine reg hF hS (mQ rfl <| pQ rfl rfl <| aQ rfl <| sq_end) fun a w hF hS => ?_
   refine ⟨(i + 1), ?_, ?_, hF.sub ⟨rfl, rfl, rfl, trivial⟩, ?_⟩
   ·(try dsimp only); omega
   ·exact ⟨by omega, by omega, Mk.none_step (p := fun x => decide (x.1 = k)) hi0 (decide_eq_false hc2) hno⟩
   ·exact hS
 ·refine wp_exit ?_
  refine hK2 _ _ ?_
  refine regS hF hS (aQ rfl <| sq_end) fun a w hF hS => ?_
  refine wp_ret ?_
  exact fn_ret (rs := [.tmp 4]) rfl hF hS (vs := [_]) ⟨rfl, trivial⟩ zQ zQ (by rw [Mk.hasI_no (fun j hj => hno j omQ)])
theorem rprove_ct (v : Value) (ls : List Mk.Lf) (k : List UInt8) (w : World) (hb : Sl encF (ph w) v ls) {fz0 : Nat × Nat} {bt0 : TypeId} (hg0 : w.heap[0]? = some (.cells (Sha.kc.map vw).toArray bt0 fz0)) : Ct Tryd.prog 23 [v, vs k] w (PfE (Mk.provE ls k).1 (Mk.provE ls k).2) := by
 refine fn_enter Tryd.func23 rfl Tryd.ntmps23 lB fun a hF hS => ?_
 have hbl := hb.1
 refine reglS fun K1 hK1 => ?_
 refine eQ hF hS rfl (ef_allocA ty54) ?_
 rintro _ _ _ a w ⟨b1, rfl, rfl, rfl⟩ hF hS
 refine lQ hF hS (aQ rfl <| sq_end) fun a w hF hS => ?_
 refine wpList_nil (hK1 _ _ ?_)
 refine regS hF hS (mQ rfl <| q0 (q_call fn16 rfl (fun w hS => rvalid_ct _ _ w (Sl.mono (hS.le zin0) hb)) hI) <| aQ rfl <| sq_end) fun a w hF hS => ?_
 refine k0 ?_; intro K3 hK3
 refine regS hF hS (mQ rfl <| q0 (q_nei rfl rfl) <| sq_end) fun a w hF hS => ?_
 refine wp_ifn hF rfl (fun hc1 => ?_) (fun hc1 => ?_)
 ·have hv0 : ¬ Mk.vE ls = 0 := by simpa using hc1
  refine reglS fun K5 hK5 => ?_
  refine lQ hF hS (q0 (q_buildP (places := [(0, 1), (1, 1), (2, 1), (3, 1)]) (cells := [.int .i64 0, .int .i64 0, .slice none 0 0, .slice none 0 0]) ty54 kQ rfl (by rfl)) <| mQ rfl <| sq_end) fun a w hF hS => ?_
  refine eQ hF hS rfl (ef_storeW ty54 0 rfl rfl rfl rfl bQ (oc_cons rfl (oc_cons rfl (oc_cons rfl (oc_cons rfl oc_nil)))) bQ) ?_
  rintro _ _ _ a w ⟨rfl, rfl, rfl⟩ hF hS
  replace hS := nl0_1 hS
  refine lQ hF hS (aQ rfl <| sq_end) fun a w hF hS => ?_
  refine wpList_nil (hK5 _ _ ?_)
  refine wp_ret ?_
  replace hS := hS.zone00
  replace hS := nl1_1 hS
  obtain ⟨zu, hzu, hS⟩ := hS.union
  exact fn_ret (rs := [.cell 4 54, .tmp 5]) rfl hF hS (vs := [_, _]) ⟨⟨_, _, _, _, _, _, _, rfl, List.mem_of_getElem? (i := 0) rfl, ty54, .inl ⟨rfl, bQ, rfl⟩⟩, rfl, trivial⟩ (zs' := [zu]) (hs' := []) (List.singleton_sublist.2 (by simp)) zQ (pe_of (q := Mk.pf0) ⟨_, _, zu, rfl, sl_nil, sl_nil, rfl, rfl⟩ (by rw [Mk.provE_e hv0]) (by rw [Mk.provE_e hv0]))
 ·have hv0 : Mk.vE ls = 0 := by simpa using hc1
  have hva := Mk.vE_asc hv0
  have hx9 : ∀ x ∈ ls, x.1.length < 1048576 ∧ x.2.length < 1048576 := fun x hx => by have := hva.2.2 x hx; omega
  have hfl := Mk.frm_le ls k
  refine wp_skip ?_
  refine hK3 _ _ ?_
  refine regS hF hS (mQ rfl <| mQ rfl <| q0 (q_call fn58 rfl (fun w hS => rfrom_ct _ _ _ w (Sl.mono (hS.le zin0) hb)) hI) <| aQ rfl <| sq_end) fun a w hF hS => ?_
  refine k0 ?_; intro K7 hK7
  refine regS hF hS (mQ rfl <| mQ rfl <| q0 (q_call fn35 rfl (fun w hS => rhas_ct _ _ _ w (Sl.mono (hS.le zin0) hb)) hI) <| q0 (q_gei rfl rfl) <| sq_end) fun a w hF hS => ?_
  refine wp_ifd hF rfl (fun hc2 => ?_) (fun hc2 => ?_)
  ·have hfd : Mk.fnd ls k = true := (Mk.has_fnd hv0 k).1 hc2
   have hfd2 := (Mk.fnd_iff.1 hfd).1
   refine reglS fun K9 hK9 => ?_
   refine lQ hF hS (mQ rfl <| mQ rfl <| mQ rfl <| pQ rfl rfl <| sq_end) fun a w hF hS => ?_
   refine eQ hF hS rfl (ef_call fn59 rfl (fun w hS => rshown_ct _ ls (Mk.frm ls k) (Mk.frm ls k + 1) _ _ rfl omQ omQ hx9 omQ omQ w (Sl.mono (hS.le zin0) hb) (hS.ext _ _ hg0))) ?_
   rintro _ _ _ a w ⟨_, _, rfl, rfl, ⟨l3, s4, z5, rfl, hl6, hs7, rfl, rfl⟩⟩ hF hS
   replace hS := nl1_1 hS
   refine eQ hF hS rfl (ef_storeW ty54 0 rfl rfl rfl rfl bQ (oc_cons rfl (oc_cons rfl (oc_cons (sl_one' hl6) (oc_cons (sl_one' hs7) oc_nil)))) bQ) ?_
   rintro _ _ _ a w ⟨rfl, rfl, rfl⟩ hF hS
   replace hS := nl1_1 hS
   refine lQ hF hS (aQ rfl <| sq_end) fun a w hF hS => ?_
   refine wpList_nil (hK9 _ _ ?_)
   refine wp_ret ?_
   replace hS := hS.zone00
   replace hS := nl2_1 hS
   obtain ⟨zu, hzu, hS⟩ := hS.union
   exact fn_ret (rs := [.cell 4 54, .tmp 5]) rfl hF hS (vs := [_, _]) ⟨⟨_, _, _, _, _, _, _, rfl, List.mem_of_getElem? (i := 0) rfl, ty54, .inl ⟨rfl, bQ, rfl⟩⟩, rfl, trivial⟩ (zs' := [zu]) (hs' := []) (List.singleton_sublist.2 (by simp)) zQ (pe_of (q := Mk.shown ls (Mk.frm ls k) (Mk.frm ls k + 1)) ⟨_, _, zu, rfl, Sl.mono (hzu _ (by simp)) hl6, Sl.mono (hzu _ (by simp)) hs7, rfl, rfl⟩ (by rw [Mk.provE_t hv0 hfd]) (by rw [Mk.provE_t hv0 hfd]))
  ·have hfd : Mk.fnd ls k = false := by
    cases h9 : Mk.fnd ls k with
    | false => rfl
    | true => exact absurd ((Mk.has_fnd hv0 k).2 h9) hc2
   refine wp_skip ?_
   refine hK7 _ _ ?_
   refine reglS fun K10 hK10 => ?_
   refine lQ hF hS (mQ rfl <| mQ rfl <| dQ rfl rfl <| q0 (q_max rfl rfl) <| mQ rfl <| pQ rfl rfl <| mQ rfl <| q0 (q_len_sl ty24 hb rfl) <| q0 (q_min rfl rfl) <| sq_end) fun a w hF hS => ?_
   refine eQ hF hS rfl (ef_call fn59 rfl (fun w hS => rshown_ct _ ls (Mk.frm ls k - 1) (min (Mk.frm ls k + 1) ls.length) _ _ omQ omQ omQ hx9 omQ omQ w (Sl.mono (hS.le zin0) hb) (hS.ext _ _ hg0))) ?_
   rintro _ _ _ a w ⟨_, _, rfl, rfl, ⟨l9, s10, z11, rfl, hl12, hs13, rfl, rfl⟩⟩ hF hS
   replace hS := nl1_1 hS
   refine eQ hF hS rfl (ef_storeW ty54 0 rfl rfl rfl rfl bQ (oc_cons rfl (oc_cons rfl (oc_cons (sl_one' hl12) (oc_cons (sl_one' hs13) oc_nil)))) bQ) ?_
   rintro _ _ _ a w ⟨rfl, rfl, rfl⟩ hF hS
   replace hS := nl1_1 hS
   refine lQ hF hS (aQ rfl <| sq_end) fun a w hF hS => ?_
   refine wpList_nil (hK10 _ _ ?_)
   refine wp_ret ?_
   replace hS := hS.zone00
   replace hS := nl2_1 hS
   obtain ⟨zu, hzu, hS⟩ := hS.union
   exact fn_ret (rs := [.cell 4 54, .tmp 5]) rfl hF hS (vs := [_, _]) ⟨⟨_, _, _, _, _, _, _, rfl, List.mem_of_getElem? (i := 0) rfl, ty54, .inl ⟨rfl, bQ, rfl⟩⟩, rfl, trivial⟩ (zs' := [zu]) (hs' := []) (List.singleton_sublist.2 (by simp)) zQ (pe_of (q := Mk.shown ls (Mk.frm ls k - 1) (min (Mk.frm ls k + 1) ls.length)) ⟨_, _, zu, rfl, Sl.mono (hzu _ (by simp)) hl12, Sl.mono (hzu _ (by simp)) hs13, rfl, rfl⟩ (by rw [Mk.provE_f hv0 hfd]) (by rw [Mk.provE_f hv0 hfd]))
theorem own_ct (v : Value) (ls : List Mk.Lf) (hl : ls.length < 1048576) (w : World) (hb : Sl encF (ph w) v ls) : Ct Tryd.prog 13 [v] w (SlR encF ls) := by
 refine fn_enter Tryd.func13 rfl Tryd.ntmps13 lB fun a hF hS => ?_
 have hbl := hb.1
 have hkv := F_all hb
 have hkt : ∀ (m : Nat), (ls.take m).length ≤ 1048576 := fun m => by rw [List.length_take]; omega
 refine regS hF hS (aQ rfl <| sq_end) fun a w hF hS => ?_
 refine k0 ?_; intro K2 hK2
 refine reg hF hS (aQ rfl <| sq_end) fun a w hF hS => ?_
 replace hS := hS.nilRow 41 2
 refine hK2 _ _ ?_
 refine k0 ?_; intro K3 hK3
 refine regS hF hS (aQ rfl <| sq_end) fun a w hF hS => ?_
 refine wp_block ?_
 obtain ⟨hs0, hhs0, hS⟩ := hS.oh
 refine wp_loopx (γ := Value × Int) ((Value.slice none 0 0), 0) (fun (u, i) => [(3, u), (4, vi i)]) [(0, _)] (fun (u, i) => (hs0.set 0 (.row u 41 2 (ls.take i.toNat).length ((ls.take i.toNat).flatMap kvC)))) (fun (u, i) => 0 ≤ i ∧ i ≤ ls.length) (fun (u, i) => (ls.length - i).toNat) (hF.sub ⟨rfl, rfl, rfl, trivial⟩) (by subst hhs0; exact hS) (by exact ⟨Int.le_refl _, by omega⟩) ?_
 rintro ⟨u, i⟩ a w hfact hF hS
 subst hhs0; (try dsimp only at hfact hF hS)
 obtain ⟨hi0, hi1⟩ := hfact
 replace hS := nl0_1 hS
 have htl : (ls.take i.toNat).length = i.toNat := by rw [List.length_take]; omega
 refine k0 ?_; intro K5 hK5
 refine regS hF hS (mQ rfl <| mQ rfl <| q0 (q_len_sl ty24 hb rfl) <| q0 (q_lti rfl rfl) <| sq_end) fun a w hF hS => ?_
 refine wp_ifd hF rfl (fun hc1 => ?_) (fun hc1 => ?_)
 ·refine wp_skip ?_
  refine hK5 _ _ ?_
  refine k0 ?_; intro K7 hK7
  refine wp_block ?_
  revert hS; revert hF; apply regJ (J := J2 (α0 := Value) (α1 := Value) 26 _ _ _ _ _) #[false, false, false, false, false, false, false, false, false, false, false, false, false, false, false] 15 mixed rfl rfl
  ·intro w hF hS
   refine tQ 0 rfl hF (hS.keep sQ zQ) (q_move rfl) fun a hF => ?_
   refine tQ 1 rfl hF (hS.keep sQ zQ) (q_move rfl) fun a hF => ?_
   refine tQ 2 rfl hF (hS.keep sQ zQ) (q_move rfl) fun a hF => ?_
   refine tQ 3 rfl hF (hS.keep sQ zQ) (q_idx_sl ty24 ty75 hb rfl rfl omQ) fun a hF => ?_
   refine tQ 4 rfl hF (hS.keep sQ zQ) (q_fld_F ty75 hb rfl omQ rfl (s' := 0) kQ) fun a hF => ?_
   refine tQ 5 rfl hF (hS.keep sQ zQ) (q_ld_FK ty9 hb zin0 rfl rfl omQ) fun a hF => ?_
   refine tQ 6 rfl hF (hS.keep sQ zQ) (q_move rfl) fun a hF => ?_
   refine tQ 7 rfl hF (hS.keep sQ zQ) (q_move rfl) fun a hF => ?_
   refine tQ 8 rfl hF (hS.keep sQ zQ) (q_idx_sl ty24 ty75 hb rfl rfl omQ) fun a hF => ?_
   refine tQ 9 rfl hF (hS.keep sQ zQ) (q_fld_F ty75 hb rfl omQ rfl (s' := 0) kQ) fun a hF => ?_
   refine tQ 10 rfl hF (hS.keep sQ zQ) (q_ld_FV ty9 hb zin0 rfl rfl omQ) fun a hF => ?_
   refine tQ 11 rfl hF (hS.keep sQ zQ) (q_buildS1 ty41 2 kQ rfl rfl (oc_cons rfl (oc_cons rfl oc_nil)) rfl rfl) fun a hF => ?_
   refine gQ 12 rfl rfl hF hS rfl (ef_bsliceW ty33 ty41 rfl bQ deQ oQ deQ deQ) ?_
   rintro v_5_12 _ _ a w ⟨rfl, rfl⟩ hF hS
   refine ⟨⟨iQ, iQ, .inr hS.k0, .inr hS.k0, .inr hS.k0, .inr hS.k0, iQ, .inr hS.k0, .inr hS.k0, .inr hS.k0, .inr hS.k0, .inr hS.k0, trivial⟩, ?_⟩
   refine gQ 13 rfl rfl hF hS rfl (ef_append ty33 ty41 1 rfl rfl rfl (src_row ty33 (k := 0) rfl oQ) bQ rfl deQ) ?_
   rintro v_5_13 _ _ a w ⟨rfl, rfl⟩ hF hS
   refine ⟨⟨iQ, iQ, .inr hS.k0, .inr hS.k0, .inr hS.k0, .inr hS.k0, iQ, .inr hS.k0, .inr hS.k0, .inr hS.k0, .inr hS.k0, iQ, trivial⟩, ?_⟩
   refine tQ 14 rfl hF (hS.keep sQ zQ) (q_assign rfl) fun a hF => ?_
   exact goW_done kQ (j2_mk v_5_12 v_5_13 (trivial) (hF.sub (L' := [(0, _), (3, _), (4, _)]) ⟨rfl, rfl, rfl, trivial⟩) hS)
  rintro a w ⟨v_5_12, v_5_13, -, hF, hS⟩
  (try dsimp only at hF hS)
  refine hK7 _ _ ?_
  refine reg hF hS (mQ rfl <| pQ rfl rfl <| aQ rfl <| sq_end) fun a w hF hS => ?_
  replace hS := hS.keep zQ (sN1)
  refine ⟨(v_5_13, i + 1), ?_, ?_, hF.sub ⟨rfl, rfl, rfl, trivial⟩, ?_⟩
  ·(try dsimp only); omega
  ·omega
  ·(try dsimp only); rw [show (i + 1).toNat = i.toNat + 1 by omega, Mk.take_snoc kv0 omQ, List.flatMap_append, List.length_append]; exact hS
 ·obtain rfl : i = ls.length := by omega
  rw [Int.toNat_natCast, List.take_length] at hS
  refine wp_exit ?_
  refine hK3 _ _ ?_
  refine regS hF hS (mQ rfl <| aQ rfl <| sq_end) fun a w hF hS => ?_
  refine wp_ret ?_
  obtain ⟨zr, hzr, hS⟩ := St.freezeF (xs := ls) (hS.rowEq (m' := List.length (ls)) (cs' := List.flatMap kvC (ls)) (rfl) (rfl)) rfl omQ (hkv)
  exact fn_ret (rs := [.tmp 2]) rfl hF hS (vs := [_]) ⟨rfl, trivial⟩ (zs' := [zr]) (hs' := []) (List.singleton_sublist.2 (by simp)) zQ ⟨zr, hzr, rfl, rfl⟩
theorem plain_ct (v : Value) (ls : List Mk.Lf) (hl : ls.length < 1048576) (w : World) (hb : Sl encF (ph w) v ls) : Ct Tryd.prog 18 [v] w (SlR encF ls) := by
 refine fn_enter Tryd.func18 rfl Tryd.ntmps18 lB fun a hF hS => ?_
 have hbl := hb.1
 have hkv := F_all hb
 have hkt : ∀ (m : Nat), (ls.take m).length ≤ 1048576 := fun m => by rw [List.length_take]; omega
 refine regS hF hS (aQ rfl <| sq_end) fun a w hF hS => ?_
 refine k0 ?_; intro K2 hK2
 refine reg hF hS (aQ rfl <| sq_end) fun a w hF hS => ?_
 replace hS := hS.nilRow 75 2
 refine hK2 _ _ ?_
 refine k0 ?_; intro K3 hK3
 refine regS hF hS (aQ rfl <| sq_end) fun a w hF hS => ?_
 refine wp_block ?_
 obtain ⟨hs0, hhs0, hS⟩ := hS.oh
 refine wp_loopx (γ := Value × Int) ((Value.slice none 0 0), 0) (fun (u, i) => [(3, u), (4, vi i)]) [(0, _)] (fun (u, i) => (hs0.set 0 (.row u 75 2 (ls.take i.toNat).length ((ls.take i.toNat).flatMap kvC)))) (fun (u, i) => 0 ≤ i ∧ i ≤ ls.length) (fun (u, i) => (ls.length - i).toNat) (hF.sub ⟨rfl, rfl, rfl, trivial⟩) (by subst hhs0; exact hS) (by exact ⟨Int.le_refl _, by omega⟩) ?_
 rintro ⟨u, i⟩ a w hfact hF hS
 subst hhs0; (try dsimp only at hfact hF hS)
 obtain ⟨hi0, hi1⟩ := hfact
 replace hS := nl0_1 hS
 have htl : (ls.take i.toNat).length = i.toNat := by rw [List.length_take]; omega
 refine k0 ?_; intro K5 hK5
 refine regS hF hS (mQ rfl <| mQ rfl <| q0 (q_len_sl ty33 hb rfl) <| q0 (q_lti rfl rfl) <| sq_end) fun a w hF hS => ?_
 refine wp_ifd hF rfl (fun hc1 => ?_) (fun hc1 => ?_)
 ·refine wp_skip ?_
  refine hK5 _ _ ?_
  refine k0 ?_; intro K7 hK7
  refine wp_block ?_
  revert hS; revert hF; apply regJ (J := J2 (α0 := Value) (α1 := Value) 26 _ _ _ _ _) #[false, false, false, false, false, false, false, false, false, false, false, false, false, false, false] 15 mixed rfl rfl
  ·intro w hF hS
   refine tQ 0 rfl hF (hS.keep sQ zQ) (q_move rfl) fun a hF => ?_
   refine tQ 1 rfl hF (hS.keep sQ zQ) (q_move rfl) fun a hF => ?_
   refine tQ 2 rfl hF (hS.keep sQ zQ) (q_move rfl) fun a hF => ?_
   refine tQ 3 rfl hF (hS.keep sQ zQ) (q_idx_sl ty33 ty41 hb rfl rfl omQ) fun a hF => ?_
   refine tQ 4 rfl hF (hS.keep sQ zQ) (q_fld_F ty41 hb rfl omQ rfl (s' := 0) kQ) fun a hF => ?_
   refine tQ 5 rfl hF (hS.keep sQ zQ) (q_ld_FK ty9 hb zin0 rfl rfl omQ) fun a hF => ?_
   refine tQ 6 rfl hF (hS.keep sQ zQ) (q_move rfl) fun a hF => ?_
   refine tQ 7 rfl hF (hS.keep sQ zQ) (q_move rfl) fun a hF => ?_
   refine tQ 8 rfl hF (hS.keep sQ zQ) (q_idx_sl ty33 ty41 hb rfl rfl omQ) fun a hF => ?_
   refine tQ 9 rfl hF (hS.keep sQ zQ) (q_fld_F ty41 hb rfl omQ rfl (s' := 0) kQ) fun a hF => ?_
   refine tQ 10 rfl hF (hS.keep sQ zQ) (q_ld_FV ty9 hb zin0 rfl rfl omQ) fun a hF => ?_
   refine tQ 11 rfl hF (hS.keep sQ zQ) (q_buildS1 ty75 2 kQ rfl rfl (oc_cons rfl (oc_cons rfl oc_nil)) rfl rfl) fun a hF => ?_
   refine gQ 12 rfl rfl hF hS rfl (ef_bsliceW ty24 ty75 rfl bQ deQ oQ deQ deQ) ?_
   rintro v_5_12 _ _ a w ⟨rfl, rfl⟩ hF hS
   refine ⟨⟨iQ, iQ, .inr hS.k0, .inr hS.k0, .inr hS.k0, .inr hS.k0, iQ, .inr hS.k0, .inr hS.k0, .inr hS.k0, .inr hS.k0, .inr hS.k0, trivial⟩, ?_⟩
   refine gQ 13 rfl rfl hF hS rfl (ef_append ty24 ty75 1 rfl rfl rfl (src_row ty24 (k := 0) rfl oQ) bQ rfl deQ) ?_
   rintro v_5_13 _ _ a w ⟨rfl, rfl⟩ hF hS
   refine ⟨⟨iQ, iQ, .inr hS.k0, .inr hS.k0, .inr hS.k0, .inr hS.k0, iQ, .inr hS.k0, .inr hS.k0, .inr hS.k0, .inr hS.k0, iQ, trivial⟩, ?_⟩
   refine tQ 14 rfl hF (hS.keep sQ zQ) (q_assign rfl) fun a hF => ?_
   exact goW_done kQ (j2_mk v_5_12 v_5_13 (trivial) (hF.sub (L' := [(0, _), (3, _), (4, _)]) ⟨rfl, rfl, rfl, trivial⟩) hS)
  rintro a w ⟨v_5_12, v_5_13, -, hF, hS⟩
  (try dsimp only at hF hS)
  refine hK7 _ _ ?_
  refine reg hF hS (mQ rfl <| pQ rfl rfl <| aQ rfl <| sq_end) fun a w hF hS => ?_
  replace hS := hS.keep zQ (sN1)
  refine ⟨(v_5_13, i + 1), ?_, ?_, hF.sub ⟨rfl, rfl, rfl, trivial⟩, ?_⟩
  ·(try dsimp only); omega
  ·omega
  ·(try dsimp only); rw [show (i + 1).toNat = i.toNat + 1 by omega, Mk.take_snoc kv0 omQ, List.flatMap_append, List.length_append]; exact hS
 ·obtain rfl : i = ls.length := by omega
  rw [Int.toNat_natCast, List.take_length] at hS
  refine wp_exit ?_
  refine hK3 _ _ ?_
  refine regS hF hS (mQ rfl <| aQ rfl <| sq_end) fun a w hF hS => ?_
  refine wp_ret ?_
  obtain ⟨zr, hzr, hS⟩ := St.freezeF (xs := ls) (hS.rowEq (m' := List.length (ls)) (cs' := List.flatMap kvC (ls)) (rfl) (rfl)) rfl omQ (hkv)
  exact fn_ret (rs := [.tmp 2]) rfl hF hS (vs := [_]) ⟨rfl, trivial⟩ (zs' := [zr]) (hs' := []) (List.singleton_sublist.2 (by simp)) zQ ⟨zr, hzr, rfl, rfl⟩
theorem samel_ct (v1 v2 : Value) (xa xb : List Mk.Lf) (w : World) (hb1 : Sl encF (ph w) v1 xa) (hb2 : Sl encF (ph w) v2 xb) : Ct Tryd.prog 34 [v1, v2] w (fun r _ _ => r = .bool (decide (xa = xb))) := by
 refine fn_enter Tryd.func34 rfl Tryd.ntmps34 lB fun a hF hS => ?_
 have hla := hb1.1
 have hlb := hb2.1
 refine regS hF hS (aQ rfl <| sq_end) fun a w hF hS => ?_
 refine k0 ?_; intro K2 hK2
 refine regS hF hS (mQ rfl <| q0 (q_len_sl ty24 hb1 rfl) <| mQ rfl <| q0 (q_len_sl ty24 hb2 rfl) <| q0 (q_nei rfl rfl) <| sq_end) fun a w hF hS => ?_
 refine wp_ifn hF rfl (fun hc1 => ?_) (fun hc1 => ?_)
 ·refine k0 ?_; intro K4 hK4
  refine reg hF hS (aQ rfl <| sq_end) fun a w hF hS => ?_
  refine hK4 _ _ ?_
  refine wp_ret ?_
  exact fn_ret (rs := [.tmp 4]) rfl hF hS (vs := [_]) ⟨rfl, trivial⟩ zQ zQ (Ls.same_len hc1)
 ·refine wp_skip ?_
  refine hK2 _ _ ?_
  refine k0 ?_; intro K5 hK5
  refine regS hF hS (aQ rfl <| sq_end) fun a w hF hS => ?_
  refine wp_block ?_
  obtain ⟨hs0, hhs0, hS⟩ := hS.oh
  refine wp_loopx (γ := Int) (0) (fun (i : Int) => [(5, vi i)]) [(0, _), (1, _)] (fun (i : Int) => hs0) (fun (i : Int) => 0 ≤ i ∧ i ≤ xa.length ∧ xa.take i.toNat = xb.take i.toNat) (fun (i : Int) => (xa.length - i).toNat) (hF.sub ⟨rfl, rfl, rfl, trivial⟩) (by subst hhs0; exact hS) (by exact ⟨Int.le_refl _, by omega, rfl⟩) ?_
  rintro i a w hfact hF hS
  subst hhs0; (try dsimp only at hfact hF hS)
  obtain ⟨hi0, hi1, htk⟩ := hfact
  replace hS : St _ [] [] _ := hS
  refine k0 ?_; intro K7 hK7
  refine regS hF hS (mQ rfl <| mQ rfl <| q0 (q_len_sl ty24 hb1 rfl) <| q0 (q_lti rfl rfl) <| sq_end) fun a w hF hS => ?_
  refine wp_ifd hF rfl (fun hc2 => ?_) (fun hc2 => ?_)
  ·have hi2 : i < xb.length := by omega
   refine wp_skip ?_
   refine hK7 _ _ ?_
   refine k0 ?_; intro K9 hK9
   refine wp_block ?_
   refine k0 ?_; intro K10 hK10
   refine regq mixed kQ hS ?_
   refine wpq_seg hF (mQ rfl <| mQ rfl <| q0 (q_idx_sl ty24 ty75 hb1 rfl rfl omQ) <| q0 (q_fld_F ty75 hb1 rfl omQ rfl (s' := 0) kQ) <| q0 (q_ld_FK ty9 hb1 zin0 rfl rfl omQ) <| mQ rfl <| mQ rfl <| q0 (q_idx_sl ty24 ty75 hb2 rfl rfl omQ) <| q0 (q_fld_F ty75 hb2 rfl omQ rfl (s' := 0) kQ) <| q0 (q_ld_FK ty9 hb2 zin0 rfl rfl omQ) <| q0 (q_nes rfl rfl) <| mQ rfl <| sq_end) fun a hF => ?_
   refine wpq_or 11 28 11 hF rfl rfl rfl rfl rfl (fun hg => have hg := (nd_false hg); sq_go 28 rfl rfl rfl (q_move rfl) <| sq_go 28 rfl rfl rfl (q_move rfl) <| sq_go 28 rfl rfl rfl (q_idx_sl ty24 ty75 hb1 rfl rfl omQ) <| sq_go 28 rfl rfl rfl (q_fld_F ty75 hb1 rfl omQ rfl (s' := 0) kQ) <| sq_go 28 rfl rfl rfl (q_ld_FV ty9 hb1 zin0 rfl rfl omQ) <| sq_go 28 rfl rfl rfl (q_move rfl) <| sq_go 28 rfl rfl rfl (q_move rfl) <| sq_go 28 rfl rfl rfl (q_idx_sl ty24 ty75 hb2 rfl rfl omQ) <| sq_go 28 rfl rfl rfl (q_fld_F ty75 hb2 rfl omQ rfl (s' := 0) kQ) <| sq_go 28 rfl rfl rfl (q_ld_FV ty9 hb2 zin0 rfl rfl omQ) <| sq_go 28 rfl rfl rfl (q_nes rfl rfl) <| sq_end) rfl rfl fun a hF => ?_
   refine wpq_nil ?_
   clear hS; intro w hS
   refine hK10 _ _ ?_
   refine wp_if hF rfl (fun hc3 => ?_) (fun hc3 => ?_)
   ·(try simp only [bS] at hc3)
    have hne : ¬ xa.getD i.toNat kv0 = xb.getD i.toNat kv0 := fun e => by rw [e] at hc3; simp at hc3
    refine regS hF hS (aQ rfl <| sq_end) fun a w hF hS => ?_
    refine wp_ret ?_
    exact fn_ret (rs := [.tmp 4]) rfl hF hS (vs := [_]) ⟨rfl, trivial⟩ zQ zQ (Ls.same_ne kv0 hne)
   ·(try simp only [bS] at hc3)
    have heq : xa.getD i.toNat kv0 = xb.getD i.toNat kv0 := Prod.ext (by simpa using hc3.1) (by simpa using hc3.2)
    refine wp_skip ?_
    refine hK9 _ _ ?_
    refine reg hF hS (mQ rfl <| pQ rfl rfl <| aQ rfl <| sq_end) fun a w hF hS => ?_
    refine ⟨(i + 1), ?_, ?_, hF.sub ⟨rfl, rfl, rfl, trivial⟩, ?_⟩
    ·(try dsimp only); omega
    ·refine ⟨by omega, by omega, Ls.same_step kv0 hi0 omQ hc1 heq htk⟩
    ·exact hS
  ·refine wp_exit ?_
   refine hK5 _ _ ?_
   refine regS hF hS (aQ rfl <| sq_end) fun a w hF hS => ?_
   refine wp_ret ?_
   exact fn_ret (rs := [.tmp 4]) rfl hF hS (vs := [_]) ⟨rfl, trivial⟩ zQ zQ (Ls.same_eq hc1 hc2 htk)
end
section
theorem fn93 : FnOk Tryd.prog 93 := fQ Tryd.func93
attribute [local irreducible] Sha.sum Sha.mac Sha.ofD Wi.int Wi.ints Wi.bytes Sha.inp Mk.half Lib.compareBytes Mk.frm Mk.rootD
/-- What the closure over a proof makes of what it is lent. -/
def UgR (eE eP eN eS eO : Nat) (c1 c3 lv : Value) (ls : List Mk.Lf) (first : Nat) (w0 : World) (σ : Mk.Dg × List Mk.Dg × Bool) : Value → List PH → List Res → Prop := fun r zs hs => ∃ sv, r = .agg (σ.1.map vb).toArray ∧ zs = [] ∧ Sl (encA 16) (ph w0) sv σ.2.1 ∧ hs = [.blk eE 4 [vt (σ.2.2)], .blk eP 50 [vi (first : Int), c1, lv, c3], .blk eN 3 [vi ((first + ls.length : Nat) : Int)], .blk eS 48 [sv], .blk eO 129 [.func (.func 93) (List.nil : List Value).toArray [Value.pointer (some ⟨eE, 0, none⟩), Value.pointer (some ⟨eP, 0, none⟩), Value.pointer (some ⟨eN, 0, none⟩), Value.pointer (some ⟨eS, 0, none⟩), Value.pointer (some ⟨eO, 0, none⟩)].toArray]]
theorem ug_of {eE eP eN eS eO : Nat} {c1 c3 lv : Value} {ls : List Mk.Lf} {first : Nat} {w0 : World} {σ σ' : Mk.Dg × List Mk.Dg × Bool} {r : Value} {zs : List PH} {hs : List Res} (h : UgR eE eP eN eS eO c1 c3 lv ls first w0 σ r zs hs) (e : σ' = σ) : UgR eE eP eN eS eO c1 c3 lv ls first w0 σ' r zs hs := e ▸ h
theorem under_step (eE eP eN eS eO : Nat) (c1 c3 lv : Value) (ls : List Mk.Lf) (first : Nat) (h1 : c1.oneCell' = true) (h3 : c3.oneCell' = true) (hl : ls.length < 1048576) (hx : ∀ x ∈ ls, x.1.length < 1048576 ∧ x.2.length < 1048576) (hf9 : first ≤ 1048576) (fz1 : Nat × Nat) (bt1 : TypeId) (w0 : World) (zsr : List PH) (hb : Sl encF (ph w0) lv ls) (hg1 : w0.heap[2]? = some (.cells (Sha.kc.map vw).toArray bt1 fz1)) (f : Nat) (ih : ∀ (lo hi : Int) (p0 n : Nat) (sv : Value) (sd : List Mk.Dg) (en : Bool) (hp : lo = p0) (hh : hi = p0 + n) (hn1 : 1 ≤ n) (hnf : n ≤ f) (hp9 : p0 + n ≤ 1048576) (h16 : ∀ d ∈ sd, d.length = 16) (hsd : Sl (encA 16) (ph w0) sv sd), Cx Tryd.prog 93 [vi lo, vi hi, .pointer (some ⟨eE, 0, none⟩), .pointer (some ⟨eP, 0, none⟩), .pointer (some ⟨eN, 0, none⟩), .pointer (some ⟨eS, 0, none⟩), .pointer (some ⟨eO, 0, none⟩)] w0 zsr [.blk eE 4 [vt (en)], .blk eP 50 [vi (first : Int), c1, lv, c3], .blk eN 3 [vi ((first + ls.length : Nat) : Int)], .blk eS 48 [sv], .blk eO 129 [.func (.func 93) (List.nil : List Value).toArray [Value.pointer (some ⟨eE, 0, none⟩), Value.pointer (some ⟨eP, 0, none⟩), Value.pointer (some ⟨eN, 0, none⟩), Value.pointer (some ⟨eS, 0, none⟩), Value.pointer (some ⟨eO, 0, none⟩)].toArray]] (UgR eE eP eN eS eO c1 c3 lv ls first w0 (Mk.ug first ls f n p0 sd en))) (lo hi : Int) (p0 n : Nat) (sv : Value) (sd : List Mk.Dg) (en : Bool) (hp : lo = p0) (hh : hi = p0 + n) (hn1 : 1 ≤ n) (hnf : n ≤ f + 1) (hp9 : p0 + n ≤ 1048576) (h16 : ∀ d ∈ sd, d.length = 16) (hsd : Sl (encA 16) (ph w0) sv sd) : Cx Tryd.prog 93 [vi lo, vi hi, .pointer (some ⟨eE, 0, none⟩), .pointer (some ⟨eP, 0, none⟩), .pointer (some ⟨eN, 0, none⟩), .pointer (some ⟨eS, 0, none⟩), .pointer (some ⟨eO, 0, none⟩)] w0 zsr [.blk eE 4 [vt (en)], .blk eP 50 [vi (first : Int), c1, lv, c3], .blk eN 3 [vi ((first + ls.length : Nat) : Int)], .blk eS 48 [sv], .blk eO 129 [.func (.func 93) (List.nil : List Value).toArray [Value.pointer (some ⟨eE, 0, none⟩), Value.pointer (some ⟨eP, 0, none⟩), Value.pointer (some ⟨eN, 0, none⟩), Value.pointer (some ⟨eS, 0, none⟩), Value.pointer (some ⟨eO, 0, none⟩)].toArray]] (UgR eE eP eN eS eO c1 c3 lv ls first w0 (Mk.ug first ls (f + 1) n p0 sd en)) := by
 refine fn_enterx Tryd.func93 rfl Tryd.ntmps93 lB fun hsr a w hF hS => ?_
 replace hS : St _ (_) (_ :: _ :: _ :: _ :: _ :: _) _ := hS
 have hbl := hb.1
 have hsl : sd.length ≤ 140737488355328 := hsd.1
 refine reglS fun K1 hK1 => ?_
 refine eQ hF hS rfl (ef_allocA ty29) ?_
 rintro _ _ _ a w ⟨b1, rfl, rfl, rfl⟩ hF hS
 rw [show List.replicate 16 (Value.int .u8 0) = (List.replicate 16 (0 : UInt8)).map vb from by rw [List.map_replicate] <;> rfl] at hS
 refine wpList_nil (hK1 _ _ ?_)
 refine k0 ?_; intro K2 hK2
 refine wp_block ?_
 refine regS hF hS (q0 (q_ld_blk1 ty4 1 rfl rfl rfl rfl) <| q0 (q_not rfl) <| aQ rfl <| sq_end) fun a w hF hS => ?_
 refine wp_if hF rfl (fun hc1 => ?_) (fun hc1 => ?_)
 ·have hen : en = false := by simpa using hc1
  subst hen
  refine reglS fun K4 hK4 => ?_
  refine lQ hF hS (q0 (q_build rfl (run_build_arr ty29 ty5 rfl)) <| sq_end) fun a w hF hS => ?_
  refine eQ hF hS rfl (ef_storeW ty29 0 rfl rfl rfl rfl bQ oQ bQ) ?_
  rintro _ _ _ a w ⟨rfl, rfl, rfl⟩ hF hS
  replace hS := nt0_6 hS
  refine wpList_nil (hK4 _ _ ?_)
  refine wp_ret ?_
  replace hS := hS.perm (.swap _ _ _)
  replace hS := hS.perm (.cons _ (.swap _ _ _))
  replace hS := hS.perm (.cons _ (.cons _ (.swap _ _ _)))
  replace hS := hS.perm (.cons _ (.cons _ (.cons _ (.swap _ _ _))))
  replace hS := hS.perm (.cons _ (.cons _ (.cons _ (.cons _ (.swap _ _ _)))))
  exact fn_retx (rs := [.cell 9 29]) rfl hF hS (vs := [_]) ⟨⟨_, _, _, _, _, _, _, rfl, List.mem_of_getElem? (i := 5) rfl, ty29, .inl ⟨rfl, bQ, rfl⟩⟩, trivial⟩ [] [_, _, _, _, _] sQ (sN1.k.k.k.k.k) (ug_of (σ := (Mk.zD, sd, false)) ⟨_, rfl, rfl, hsd, rfl⟩ Mk.ug_no)
 ·have hen : en = true := by simpa using hc1
  subst hen
  refine reglS fun K5 hK5 => ?_
  refine lQ hF hS (mQ rfl <| q0 (q_fieldAddr ty50 rfl rfl (s' := 0) kQ) <| q0 (q_ld_blk1 ty3 2 rfl rfl rfl rfl) <| q0 (q_lei rfl rfl) <| mQ rfl <| sq_end) fun a w hF hS => ?_
  refine wpl_or 4 22 3 hF hS rfl rfl rfl rfl rfl (fun hg => have hg := (by first | exact of_decide_eq_false hg | exact hg); sq_go 22 rfl rfl rfl (q_move rfl) <| sq_go 22 rfl rfl rfl (q_ld_blk1 ty3 3 rfl rfl rfl rfl) <| sq_go 22 rfl rfl rfl (q_gei rfl rfl) <| sq_end) rfl rfl fun a w hF hS => ?_
  refine lQ hF hS (aQ rfl <| sq_end) fun a w hF hS => ?_
  refine wpList_nil (hK5 _ _ ?_)
  refine wp_if hF rfl (fun hc2 => ?_) (fun hc2 => ?_)
  ·(try simp only [bS] at hc2)
   have ho : p0 + n ≤ first ∨ first + ls.length ≤ p0 := by omega
   refine k0 ?_; intro K6 hK6
   refine reglS fun K7 hK7 => ?_
   refine lQ hF hS (q0 (q_ld_blk1 ty48 4 rfl rfl rfl rfl) <| q0 (q_len_sl ty48 hsd rfl) <| q0 (q_gti rfl rfl) <| sq_end) fun a w hF hS => ?_
   refine eQ hF hS rfl (ef_store1 ty4 1 rfl rfl rfl rfl (by simp)) ?_
   rintro _ _ _ a w ⟨rfl, rfl, rfl⟩ hF hS
   (try simp only [sC] at hS)
   replace hS := nt0_6 hS
   refine wpList_nil (hK7 _ _ ?_)
   refine regS hF hS (q0 (q_ld_blk1 ty4 1 rfl rfl rfl rfl) <| q0 (q_not rfl) <| sq_end) fun a w hF hS => ?_
   refine wp_ifn hF rfl (fun hc3 => ?_) (fun hc3 => ?_)
   ·have hs0 : sd = [] := by
     have h9 : sd.length = 0 := by simpa using hc3
     exact List.length_eq_zero_iff.1 h9
    subst hs0
    refine reglS fun K9 hK9 => ?_
    refine lQ hF hS (q0 (q_build rfl (run_build_arr ty29 ty5 rfl)) <| sq_end) fun a w hF hS => ?_
    refine eQ hF hS rfl (ef_storeW ty29 0 rfl rfl rfl rfl bQ oQ bQ) ?_
    rintro _ _ _ a w ⟨rfl, rfl, rfl⟩ hF hS
    replace hS := nt0_6 hS
    refine wpList_nil (hK9 _ _ ?_)
    refine wp_ret ?_
    replace hS := hS.perm (.swap _ _ _)
    replace hS := hS.perm (.cons _ (.swap _ _ _))
    replace hS := hS.perm (.cons _ (.cons _ (.swap _ _ _)))
    replace hS := hS.perm (.cons _ (.cons _ (.cons _ (.swap _ _ _))))
    replace hS := hS.perm (.cons _ (.cons _ (.cons _ (.cons _ (.swap _ _ _)))))
    exact fn_retx (rs := [.cell 9 29]) rfl hF hS (vs := [_]) ⟨⟨_, _, _, _, _, _, _, rfl, List.mem_of_getElem? (i := 5) rfl, ty29, .inl ⟨rfl, bQ, rfl⟩⟩, trivial⟩ [] [_, _, _, _, _] sQ (sN1.k.k.k.k.k) (ug_of (σ := (Mk.zD, [], false)) ⟨_, rfl, rfl, hsd, by simp⟩ (Mk.ug_nil ho))
   ·obtain ⟨d0, t0, rfl⟩ : ∃ d0 t0, sd = d0 :: t0 := by
     cases sd with
     | nil => simp at hc3
     | cons d0 t0 => exact ⟨_, _, rfl⟩
    have hd16 := h16 d0 (List.mem_cons_self ..)
    have hd17 : ((d0 :: t0).getD (0 : Int).toNat []).length = 16 := hd16
    have hsl2 : 1 ≤ (d0 :: t0).length := by rw [List.length_cons]; omega
    refine wp_skip ?_
    refine hK6 _ _ ?_
    refine reglS fun K10 hK10 => ?_
    refine lQ hF hS (q0 (q_ld_blk1 ty48 4 rfl rfl rfl rfl) <| q0 (q_idx_sl ty48 ty29 hsd rfl rfl omQ) <| q0 (q_ld_AB ty29 hsd zin0 rfl rfl deQ omQ) <| sq_end) fun a w hF hS => ?_
    refine eQ hF hS rfl (ef_allocA ty29) ?_
    rintro _ _ _ a w ⟨b2, rfl, rfl, rfl⟩ hF hS
    rw [show List.replicate 16 (Value.int .u8 0) = (List.replicate 16 (0 : UInt8)).map vb from by rw [List.map_replicate] <;> rfl] at hS
    refine eQ hF hS rfl (ef_storeW ty29 0 rfl rfl rfl rfl bQ oQ bQ) ?_
    rintro _ _ _ a w ⟨rfl, rfl, rfl⟩ hF hS
    replace hS := nt0_7 hS
    refine wpList_nil (hK10 _ _ ?_)
    refine reglS fun K11 hK11 => ?_
    refine lQ hF hS (q0 (q_ld_blk1 ty48 5 rfl rfl rfl rfl) <| q0 (q_slsl_lo ty48 ty29 hsd rfl rfl omQ) <| sq_end) fun a w hF hS => ?_
    refine eQ hF hS rfl (ef_store1 ty48 5 rfl rfl rfl (sl_one' (Sl.cut hsd omQ)) (by simp)) ?_
    rintro _ _ _ a w ⟨rfl, rfl, rfl⟩ hF hS
    (try simp only [sC] at hS)
    replace hS := nt0_7 hS
    refine wpList_nil (hK11 _ _ ?_)
    refine reglS fun K12 hK12 => ?_
    refine lQ hF hS (q0 (q_ld_blkW ty29 0 rfl rfl bQ rfl) <| sq_end) fun a w hF hS => ?_
    refine eQ hF hS rfl (ef_storeW ty29 1 rfl rfl rfl rfl bQ oQ bQ) ?_
    rintro _ _ _ a w ⟨rfl, rfl, rfl⟩ hF hS
    replace hS := nt0_7 hS
    refine wpList_nil (hK12 _ _ ?_)
    refine wp_ret ?_
    replace hS := hS.perm P0_1
    replace hS := hS.perm (.cons _ (.cons _ (.swap _ _ _)))
    replace hS := hS.perm (.cons _ (.swap _ _ _))
    replace hS := hS.perm (.cons _ (.cons _ (.cons _ (.swap _ _ _))))
    replace hS := hS.perm (.cons _ (.cons _ (.swap _ _ _)))
    replace hS := hS.perm (.cons _ (.cons _ (.cons _ (.cons _ (.swap _ _ _)))))
    replace hS := hS.perm (.cons _ (.cons _ (.cons _ (.swap _ _ _))))
    replace hS := hS.perm (.cons _ (.cons _ (.cons _ (.cons _ (.cons _ (.swap _ _ _))))))
    replace hS := hS.perm (.cons _ (.cons _ (.cons _ (.cons _ (.swap _ _ _)))))
    exact fn_retx (rs := [.cell 9 29]) rfl hF hS (vs := [_]) ⟨⟨_, _, _, _, _, _, _, rfl, List.mem_of_getElem? (i := 6) rfl, ty29, .inl ⟨rfl, bQ, rfl⟩⟩, trivial⟩ [] [_, _, _, _, _] sQ (sN2.k.k.k.k.k) (ug_of (σ := (d0, t0, true)) ⟨_, rfl, rfl, by have h9 := Sl.cut hsd (lo := 1) (hi := (d0 :: t0).length) ⟨hsl2, Nat.le_refl _⟩; rw [List.take_length] at h9; exact h9, by simp⟩ (Mk.ug_side ho))
  ·(try simp only [bS] at hc2)
   have ho : ¬ (p0 + n ≤ first ∨ first + ls.length ≤ p0) := by omega
   refine regS hF hS (mQ rfl <| mQ rfl <| dQ rfl rfl <| q0 (q_eqi rfl rfl) <| aQ rfl <| sq_end) fun a w hF hS => ?_
   refine wp_ifd hF rfl (fun hc4 => ?_) (fun hc4 => ?_)
   ·have hn3 : n = 1 := by omega
    have hle : (lo - (first : Int)).toNat = p0 - first := by omega
    have hxa := hx (ls.getD (lo - first).toNat kv0) (Mk.getD_in omQ)
    have hd16 := Mk.leafD_16 (ls.getD (lo - first).toNat kv0)
    refine reglS fun K14 hK14 => ?_
    refine lQ hF hS (q0 (q_fieldAddr ty50 rfl rfl (s' := 0) kQ) <| q0 (q_ld_blk1 ty33 2 rfl rfl rfl rfl) <| mQ rfl <| q0 (q_fieldAddr ty50 rfl rfl (s' := 0) kQ) <| q0 (q_ld_blk1 ty3 2 rfl rfl rfl rfl) <| dQ rfl rfl <| q0 (q_idx_sl ty33 ty41 hb rfl rfl omQ) <| q0 (q_ld_F ty41 hb zin0 rfl rfl omQ) <| q0 (q_call fn80 rfl (fun w hS => leaf_ct (ls.getD (lo - first).toNat kv0) hxa w (hS.ext _ _ hg1)) hI) <| sq_end) fun a w hF hS => ?_
    refine eQ hF hS rfl (ef_storeW ty29 0 rfl rfl rfl rfl bQ oQ bQ) ?_
    rintro _ _ _ a w ⟨rfl, rfl, rfl⟩ hF hS
    replace hS := nt0_6 hS
    refine wpList_nil (hK14 _ _ ?_)
    refine wp_ret ?_
    replace hS := hS.perm (.swap _ _ _)
    replace hS := hS.perm (.cons _ (.swap _ _ _))
    replace hS := hS.perm (.cons _ (.cons _ (.swap _ _ _)))
    replace hS := hS.perm (.cons _ (.cons _ (.cons _ (.swap _ _ _))))
    replace hS := hS.perm (.cons _ (.cons _ (.cons _ (.cons _ (.swap _ _ _)))))
    exact fn_retx (rs := [.cell 9 29]) rfl hF hS (vs := [_]) ⟨⟨_, _, _, _, _, _, _, rfl, List.mem_of_getElem? (i := 5) rfl, ty29, .inl ⟨rfl, bQ, rfl⟩⟩, trivial⟩ [] [_, _, _, _, _] sQ (sN1.k.k.k.k.k) (ug_of (σ := (Mk.leafD (ls.getD (lo - first).toNat kv0), sd, true)) ⟨_, rfl, rfl, hsd, rfl⟩ (by rw [Mk.ug_leaf ho hn3, ← hle]))
   ·have hn2 : 2 ≤ n := by omega
    have hhp := Mk.half_pos n
    have hhl := Mk.half_lt hn2
    obtain ⟨hr16, hrs, hrl⟩ := Mk.ug_16 (first := first) (lv := ls) f (Mk.half n) p0 sd true h16
    refine wp_skip ?_
    refine hK2 _ _ ?_
    refine k0 ?_; intro K15 hK15
    refine reg hF hS (mQ rfl <| mQ rfl <| q0 (q_call fn81 rfl (fun w hS => middle_ct _ _ n omQ omQ omQ omQ w ) hI) <| aQ rfl <| sq_end) fun a w hF hS => ?_
    obtain ⟨r1, hr1⟩ : ∃ r, r = (Mk.ug first ls f (Mk.half n) p0 sd true) := ⟨_, rfl⟩
    rw [← hr1] at hr16 hrs hrl
    obtain ⟨ht16, hts, htl⟩ := Mk.ug_16 (first := first) (lv := ls) f (n - Mk.half n) (p0 + Mk.half n) r1.2.1 r1.2.2 hrs
    obtain ⟨r2, hr2⟩ : ∃ r, r = Mk.ug first ls f (n - Mk.half n) (p0 + Mk.half n) r1.2.1 r1.2.2 := ⟨_, rfl⟩
    rw [← hr2] at ht16 hts htl
    have hnd := Mk.nodeD_16 r1.1 r2.1
    refine hK15 _ _ ?_
    refine reglS fun K16 hK16 => ?_
    refine lQ hF hS (q0 (q_ld_blk1 ty129 5 rfl rfl rfl rfl) <| mQ rfl <| mQ rfl <| sq_end) fun a w hF hS => ?_
    replace hS := hS.perm (.swap _ _ _)
    replace hS := hS.perm (.cons _ (.swap _ _ _))
    replace hS := hS.perm (.cons _ (.cons _ (.swap _ _ _)))
    replace hS := hS.perm (.cons _ (.cons _ (.cons _ (.swap _ _ _))))
    replace hS := hS.perm (.cons _ (.cons _ (.cons _ (.cons _ (.swap _ _ _)))))
    replace hS := nt0_6 hS
    refine eQ hF hS rfl (ef_callvxN 5 fn93 rfl rfl (by exact (ih _ _ p0 (Mk.half n) _ sd true  omQ omQ omQ omQ omQ h16 hsd ))) ?_
    rintro _ _ _ a w ⟨_, _, rfl, rfl, ⟨sv1, rfl, rfl, hsd1, rfl⟩⟩ hF hS
    rw [← hr1] at hF hS hsd1
    replace hS := nt0_6 hS
    refine eQ hF hS rfl (ef_allocA ty29) ?_
    rintro _ _ _ a w ⟨b4, rfl, rfl, rfl⟩ hF hS
    rw [show List.replicate 16 (Value.int .u8 0) = (List.replicate 16 (0 : UInt8)).map vb from by rw [List.map_replicate] <;> rfl] at hS
    refine eQ hF hS rfl (ef_storeW ty29 0 rfl rfl rfl rfl bQ oQ bQ) ?_
    rintro _ _ _ a w ⟨rfl, rfl, rfl⟩ hF hS
    replace hS := nt0_7 hS
    refine wpList_nil (hK16 _ _ ?_)
    refine k0 ?_; intro K17 hK17
    revert hS; revert hF; apply regJ (J := J1 (α0 := Value) 66 _ _ _ _ _) #[false, false, false, false, false, false, false] 7 mixed rfl rfl
    ·intro w hF hS
     refine tQ 0 rfl hF (hS.keep sQ (sN6.k)) (q_ld_blkW ty29 0 rfl rfl bQ rfl) fun a hF => ?_
     refine tQ 1 rfl hF (hS.keep sQ (sN1.k.n.n.n.n.n)) (q_ld_blk1 ty129 0 rfl rfl rfl rfl) fun a hF => ?_
     refine tQ 2 rfl hF (hS.keep sQ (sQ.n.n.n.n.n.n.n)) (q_move rfl) fun a hF => ?_
     refine tQ 3 rfl hF (hS.keep sQ (sQ.n.n.n.n.n.n.n)) (q_move rfl) fun a hF => ?_
     refine goW_fork [4] kQ rfl ⟨?_, trivial⟩
     replace hS := hS.perm (.swap _ _ _)
     replace hS := hS.perm (.cons _ (.swap _ _ _))
     replace hS := hS.perm (.cons _ (.cons _ (.swap _ _ _)))
     replace hS := hS.perm (.cons _ (.cons _ (.cons _ (.swap _ _ _))))
     replace hS := hS.perm (.cons _ (.cons _ (.cons _ (.cons _ (.swap _ _ _)))))
     replace hS := nt0_7 hS
     refine stepW_ef _ rfl rfl hF hS rfl (ef_callvxN 5 fn93 rfl rfl (by exact (ih _ _ (p0 + Mk.half n) (n - Mk.half n) _ r1.2.1 r1.2.2  omQ omQ omQ omQ omQ hrs hsd1 ))) ?_
     rintro _ _ _ a w ⟨_, _, rfl, rfl, ⟨sv2, rfl, rfl, hsd2, rfl⟩⟩ hF hS
     rw [← hr2] at hF hS hsd2
     replace hS := nt0_7 hS
     refine ⟨⟨iQ, iQ, iQ, .inr (hS.keep sQ (sN1.k.n.n.n.n.n)), trivial⟩, ?_⟩
     refine gQ 5 rfl rfl hF hS rfl (ef_qt (q_call fn82 rfl (fun w hS => node_ct _ _ (by first | with_reducible assumption | omega) (by first | with_reducible assumption | omega) w (hS.ext _ _ hg1)) hI)) ?_
     rintro _ _ _ a w ⟨rfl, rfl, rfl⟩ hF hS
     refine ⟨⟨iQ, iQ, iQ, iQ, trivial⟩, ?_⟩
     refine gQ 6 rfl rfl hF hS rfl (ef_storeW ty29 6 rfl rfl rfl rfl bQ oQ bQ) ?_
     rintro _ _ _ a w ⟨rfl, rfl, rfl⟩ hF hS
     replace hS := nt0_7 hS
     refine ⟨⟨iQ, iQ, iQ, iQ, trivial⟩, ?_⟩
     exact goW_done kQ (j1_mk sv2 ((And.intro hsd2 trivial)) (hF.sub (L' := [(9, _)]) ⟨rfl, trivial⟩) hS)
    rintro a w ⟨sv2, ⟨hsd2, -⟩, hF, hS⟩
    (try dsimp only at hF hS)
    refine hK17 _ _ ?_
    refine wp_ret ?_
    exact fn_retx (rs := [.cell 9 29]) rfl hF hS (vs := [_]) ⟨⟨_, _, _, _, _, _, _, rfl, List.mem_of_getElem? (i := 6) rfl, ty29, .inl ⟨rfl, bQ, rfl⟩⟩, trivial⟩ [] [_, _, _, _, _] sQ (sN2.k.k.k.k.k) (ug_of (σ := (Mk.nodeD r1.1 r2.1, r2.2.1, r2.2.2)) ⟨_, rfl, rfl, hsd2, rfl⟩ (Mk.ug_node ho hn2 hr1 hr2))
theorem under_all (eE eP eN eS eO : Nat) (c1 c3 lv : Value) (ls : List Mk.Lf) (first : Nat) (h1 : c1.oneCell' = true) (h3 : c3.oneCell' = true) (hl : ls.length < 1048576) (hx : ∀ x ∈ ls, x.1.length < 1048576 ∧ x.2.length < 1048576) (hf9 : first ≤ 1048576) (fz1 : Nat × Nat) (bt1 : TypeId) (w0 : World) (zsr : List PH) (hb : Sl encF (ph w0) lv ls) (hg1 : w0.heap[2]? = some (.cells (Sha.kc.map vw).toArray bt1 fz1)) : ∀ (f : Nat) (lo hi : Int) (p0 n : Nat) (sv : Value) (sd : List Mk.Dg) (en : Bool) (hp : lo = p0) (hh : hi = p0 + n) (hn1 : 1 ≤ n) (hnf : n ≤ f) (hp9 : p0 + n ≤ 1048576) (h16 : ∀ d ∈ sd, d.length = 16) (hsd : Sl (encA 16) (ph w0) sv sd), Cx Tryd.prog 93 [vi lo, vi hi, .pointer (some ⟨eE, 0, none⟩), .pointer (some ⟨eP, 0, none⟩), .pointer (some ⟨eN, 0, none⟩), .pointer (some ⟨eS, 0, none⟩), .pointer (some ⟨eO, 0, none⟩)] w0 zsr [.blk eE 4 [vt (en)], .blk eP 50 [vi (first : Int), c1, lv, c3], .blk eN 3 [vi ((first + ls.length : Nat) : Int)], .blk eS 48 [sv], .blk eO 129 [.func (.func 93) (List.nil : List Value).toArray [Value.pointer (some ⟨eE, 0, none⟩), Value.pointer (some ⟨eP, 0, none⟩), Value.pointer (some ⟨eN, 0, none⟩), Value.pointer (some ⟨eS, 0, none⟩), Value.pointer (some ⟨eO, 0, none⟩)].toArray]] (UgR eE eP eN eS eO c1 c3 lv ls first w0 (Mk.ug first ls f n p0 sd en)) := by
 intro f
 induction f with
 | zero => intro lo hi p0 n sv sd en hp hh hn1 hnf; omega
 | succ f ih => exact fun lo hi p0 n sv sd en hp hh hn1 hnf hp9 h16 hsd => under_step eE eP eN eS eO c1 c3 lv ls first h1 h3 hl hx hf9 fz1 bt1 w0 zsr hb hg1 f ih lo hi p0 n sv sd en hp hh hn1 hnf hp9 h16 hsd
theorem under_ct (q : Mk.Pf) (lv sv : Value) (rd : List UInt8) (hr : rd.length = 16) (w : World) (hb : Sl encF (ph w) lv q.lv) (hsd : Sl (encA 16) (ph w) sv q.sd) {fz1 : Nat × Nat} {bt1 : TypeId} (hg1 : w.heap[2]? = some (.cells (Sha.kc.map vw).toArray bt1 fz1)) : Ct Tryd.prog 61 [.agg [vi q.fst, vi q.sz, lv, sv].toArray, .agg ((rd).map vb).toArray] w (fun r _ _ => r = .bool (Mk.undB q rd)) := by
 refine fn_enter Tryd.func61 rfl Tryd.ntmps61 lB fun a hF hS => ?_
 obtain ⟨qf, qs, ql, qd⟩ := q
 dsimp only at hF hb hsd
 have hbl := hb.1
 have hdl : qd.length ≤ 140737488355328 := hsd.1
 have hs16 : ∀ d ∈ qd, d.length = 16 := fun d hd => by obtain ⟨i, hi, rfl⟩ := List.getElem_of_mem hd; exact (hsd.rep (i := i) (x := qd[i]) (by simp [hi])).1
 have hr0 : (Mk.rootD 0 Mk.zD).length = 16 := Mk.rootD_16 _ _
 refine reglS fun K1 hK1 => ?_
 refine eQ hF hS rfl (ef_boxA rfl) ?_
 rintro _ _ _ a w ⟨b1, rfl, rfl, rfl⟩ hF hS
 refine eQ hF hS rfl (ef_boxA rfl) ?_
 rintro _ _ _ a w ⟨b2, rfl, rfl, rfl⟩ hF hS
 refine lQ hF hS (aQ rfl <| sq_end) fun a w hF hS => ?_
 refine wpList_nil (hK1 _ _ ?_)
 refine reglS fun K2 hK2 => ?_
 refine lQ hF hS (q0 (q_fieldAddr ty50 rfl rfl (s' := 0) kQ) <| q0 (q_ld_blk1 ty3 1 rfl rfl rfl rfl) <| q0 (q_fieldAddr ty50 rfl rfl (s' := 0) kQ) <| q0 (q_ld_blk1 ty33 1 rfl rfl rfl rfl) <| q0 (q_len_sl ty33 hb rfl) <| q0 (q_addiW rfl rfl) <| sq_end) fun a w hF hS => ?_
 refine eQ hF hS rfl (ef_alloc1 ty3 (by rfl)) ?_
 rintro _ _ _ a w ⟨b3, rfl, rfl, rfl⟩ hF hS
 refine eQ hF hS rfl (ef_store1 ty3 0 rfl rfl rfl rfl (by simp)) ?_
 rintro _ _ _ a w ⟨rfl, rfl, rfl⟩ hF hS
 (try simp only [sC] at hS)
 replace hS := nl0_3 hS
 refine wpList_nil (hK2 _ _ ?_)
 refine k0 ?_; intro K3 hK3
 refine reglS fun K4 hK4 => ?_
 refine lQ hF hS (q0 (q_fieldAddr ty50 rfl rfl (s' := 0) kQ) <| q0 (q_ld_blk1 ty3 2 rfl rfl rfl rfl) <| q0 (q_lti rfl rfl) <| mQ rfl <| sq_end) fun a w hF hS => ?_
 refine wpl_or 3 19 3 hF hS rfl rfl rfl rfl rfl (fun hg => have hg := (by first | exact of_decide_eq_false hg | exact hg); sq_go 19 rfl rfl rfl (q_fieldAddr ty50 rfl rfl (s' := 0) kQ) <| sq_go 19 rfl rfl rfl (q_ld_blk1 ty3 2 rfl rfl rfl rfl) <| sq_go 19 rfl rfl rfl (q_gti rfl rfl) <| sq_end) rfl rfl fun a w hF hS => ?_
 refine lQ hF hS (mQ rfl <| sq_end) fun a w hF hS => ?_
 refine wpl_or 8 24 3 hF hS rfl rfl rfl rfl rfl (fun hg => have hg := hg; sq_go 24 rfl rfl rfl (q_fieldAddr ty50 rfl rfl (s' := 0) kQ) <| sq_go 24 rfl rfl rfl (q_ld_blk1 ty3 2 rfl rfl rfl rfl) <| sq_go 24 rfl rfl rfl (q_lti rfl rfl) <| sq_end) rfl rfl fun a w hF hS => ?_
 refine lQ hF hS (mQ rfl <| sq_end) fun a w hF hS => ?_
 refine wpl_or 13 29 5 hF hS rfl rfl rfl rfl rfl (fun hg => have hg := hg; sq_go 29 rfl rfl rfl (q_fieldAddr ty50 rfl rfl (s' := 0) kQ) <| sq_go 29 rfl rfl rfl (q_ld_blk1 ty3 2 rfl rfl rfl rfl) <| sq_go 29 rfl rfl rfl (q_fieldAddr ty50 rfl rfl (s' := 0) kQ) <| sq_go 29 rfl rfl rfl (q_ld_blk1 ty3 2 rfl rfl rfl rfl) <| sq_go 29 rfl rfl rfl (q_gti rfl rfl) <| sq_end) rfl rfl fun a w hF hS => ?_
 refine lQ hF hS (mQ rfl <| sq_end) fun a w hF hS => ?_
 refine wpl_or 20 36 4 hF hS rfl rfl rfl rfl rfl (fun hg => have hg := hg; sq_go 36 rfl rfl rfl (q_ld_blk1 ty3 0 rfl rfl rfl rfl) <| sq_go 36 rfl rfl rfl (q_fieldAddr ty50 rfl rfl (s' := 0) kQ) <| sq_go 36 rfl rfl rfl (q_ld_blk1 ty3 2 rfl rfl rfl rfl) <| sq_go 36 rfl rfl rfl (q_gti rfl rfl) <| sq_end) rfl rfl fun a w hF hS => ?_
 refine lQ hF hS (mQ rfl <| sq_end) fun a w hF hS => ?_
 refine wpl_or 26 42 4 hF hS rfl rfl rfl rfl rfl (fun hg => have hg := hg; sq_go 42 rfl rfl rfl (q_fieldAddr ty50 rfl rfl (s' := 0) kQ) <| sq_go 42 rfl rfl rfl (q_ld_blk1 ty33 2 rfl rfl rfl rfl) <| sq_go 42 rfl rfl rfl (q_call fn15 rfl (fun w hS => valid_ct _ _ w (Sl.mono (hS.le zin0) hb)) hI) <| sq_go 42 rfl rfl rfl (q_nei rfl rfl) <| sq_end) rfl rfl fun a w hF hS => ?_
 refine wpList_nil (hK4 _ _ ?_)
 refine wp_if hF rfl (fun hc1 => ?_) (fun hc1 => ?_)
 ·(try simp only [bS] at hc1)
  have hok : ¬ Mk.okP ⟨qf, qs, ql, qd⟩ := fun h9 => by
   obtain ⟨g1, g2, g3, g4, g5, g6⟩ := h9
   dsimp only at g1 g2 g3 g4 g5 g6
   have hw := wr_in (n := qf + ql.length) omQ
   rw [hw] at hc1
   omega
  refine regS hF hS (aQ rfl <| sq_end) fun a w hF hS => ?_
  refine wp_ret ?_
  exact fn_ret (rs := [.tmp 4]) rfl hF hS (vs := [_]) ⟨rfl, trivial⟩ zQ zQ (by rw [Mk.und_no hok])
 ·(try simp only [bS] at hc1)
  obtain ⟨fn, rfl⟩ : ∃ fn : Nat, qf = fn := ⟨qf.toNat, by omega⟩
  obtain ⟨zn, rfl⟩ : ∃ zn : Nat, qs = zn := ⟨qs.toNat, by omega⟩
  have hw : wr ((fn : Int) + (ql.length : Int)) = ((fn + ql.length : Nat) : Int) := by rw [wr_in omQ]; rfl
  rw [hw] at hc1 hS
  have hok : Mk.okP ⟨fn, zn, ql, qd⟩ := ⟨by dsimp only; omega, by dsimp only; omega, by dsimp only; omega, by dsimp only; omega, by dsimp only; omega, by dsimp only; omega⟩
  have hva := Mk.vE_asc hok.2.2.2.2.2
  have hx9 : ∀ x ∈ ql, x.1.length < 1048576 ∧ x.2.length < 1048576 := fun x hx => by have := hva.2.2 x hx; omega
  have hl9 : ql.length < 1048576 := by have := hva.2.1; dsimp only at this; omega
  refine wp_skip ?_
  refine hK3 _ _ ?_
  refine k0 ?_; intro K6 hK6
  refine regS hF hS (q0 (q_fieldAddr ty50 rfl rfl (s' := 0) kQ) <| q0 (q_ld_blk1 ty3 2 rfl rfl rfl rfl) <| q0 (q_eqi rfl rfl) <| sq_end) fun a w hF hS => ?_
  refine wp_ifd hF rfl (fun hc2 => ?_) (fun hc2 => ?_)
  ·have hz0 : zn = 0 := by omega
   subst hz0
   refine k0 ?_; intro K8 hK8
   refine regq mixed kQ hS ?_
   refine wpq_seg hF (q0 (q_fieldAddr ty50 rfl rfl (s' := 0) kQ) <| q0 (q_ld_blk1 ty48 2 rfl rfl rfl rfl) <| q0 (q_len_sl ty48 hsd rfl) <| q0 (q_eqi rfl rfl) <| mQ rfl <| sq_end) fun a hF => ?_
   refine wpq_and 4 55 4 hF rfl rfl rfl rfl rfl (fun hg => have hg := (by first | exact of_decide_eq_true hg | exact hg); sq_go 55 rfl rfl rfl (q_build rfl (run_build_arr ty29 ty5 rfl)) <| sq_go 55 rfl rfl rfl (q_call fn50 rfl (fun w hS => root_ct _ Mk.zD rfl omQ w (hS.ext _ _ hg1)) hI) <| sq_go 55 rfl rfl rfl (q_ld_blkW ty29 1 rfl rfl bQ rfl) <| sq_go 55 rfl rfl rfl (q_eqAB ty29 ty5 kQ rfl rfl bQ bQ) <| sq_end) rfl rfl fun a hF => ?_
   refine wpq_seg hF (aQ rfl <| sq_end) fun a hF => ?_
   refine wpq_nil ?_
   clear hS; intro w hS
   refine hK8 _ _ ?_
   refine wp_ret ?_
   exact fn_ret (rs := [.tmp 4]) rfl hF hS (vs := [_]) ⟨rfl, trivial⟩ zQ zQ (by rw [Mk.und_0 hok rfl]; exact congrArg Value.bool (congrArg (· && decide (Mk.rootD 0 Mk.zD = rd)) (decide_eq_decide.2 ⟨fun h9 => List.length_eq_zero_iff.1 (show qd.length = 0 by have h8 : ((qd.length : Nat) : Int) = 0 := h9; omega), fun h9 => by have h8 : qd = [] := h9; rw [h8]; rfl⟩)))
  ·have hz1 : 1 ≤ zn := by omega
   refine wp_skip ?_
   refine hK6 _ _ ?_
   refine k0 ?_; intro K9 hK9
   refine regS hF hS (q0 (q_fieldAddr ty50 rfl rfl (s' := 0) kQ) <| q0 (q_ld_blk1 ty33 2 rfl rfl rfl rfl) <| q0 (q_len_sl ty33 hb rfl) <| q0 (q_eqi rfl rfl) <| sq_end) fun a w hF hS => ?_
   refine wp_ifd hF rfl (fun hc3 => ?_) (fun hc3 => ?_)
   ·have hnl : ql = [] := List.length_eq_zero_iff.1 omQ
    refine regS hF hS (aQ rfl <| sq_end) fun a w hF hS => ?_
    refine wp_ret ?_
    exact fn_ret (rs := [.tmp 4]) rfl hF hS (vs := [_]) ⟨rfl, trivial⟩ zQ zQ (by rw [Mk.und_nil (by dsimp only; omega) hnl])
   ·have hsg := Mk.ug_16 (first := fn) (lv := ql) zn zn 0 qd true hs16
    obtain ⟨σ, hσ⟩ : ∃ σ, σ = Mk.ug fn ql zn zn 0 qd true := ⟨_, rfl⟩
    rw [← hσ] at hsg
    obtain ⟨hg16, _, hgl⟩ := hsg
    have hrt := Mk.rootD_16 zn σ.1
    have hnl : ¬ ql = [] := fun h9 => by rw [h9] at hc3; simp at hc3
    refine wp_skip ?_
    refine hK9 _ _ ?_
    refine reglS fun K12 hK12 => ?_
    refine lQ hF hS (q0 (q_fieldAddr ty50 rfl rfl (s' := 0) kQ) <| q0 (q_ld_blk1 ty48 2 rfl rfl rfl rfl) <| sq_end) fun a w hF hS => ?_
    refine eQ hF hS rfl (ef_alloc1 ty48 (by rfl)) ?_
    rintro _ _ _ a w ⟨b4, rfl, rfl, rfl⟩ hF hS
    refine eQ hF hS rfl (ef_alloc1 ty4 (by rfl)) ?_
    rintro _ _ _ a w ⟨b5, rfl, rfl, rfl⟩ hF hS
    refine eQ hF hS rfl (ef_store1 ty48 1 rfl rfl rfl (sl_one' hsd) (by simp)) ?_
    rintro _ _ _ a w ⟨rfl, rfl, rfl⟩ hF hS
    (try simp only [sC] at hS)
    replace hS := nl0_5 hS
    refine eQ hF hS rfl (ef_store1 ty4 0 rfl rfl rfl rfl (by simp)) ?_
    rintro _ _ _ a w ⟨rfl, rfl, rfl⟩ hF hS
    (try simp only [sC] at hS)
    replace hS := nl0_5 hS
    refine wpList_nil (hK12 _ _ ?_)
    refine reglS fun K13 hK13 => ?_
    refine eQ hF hS rfl (ef_alloc1 ty129 (by rfl)) ?_
    rintro _ _ _ a w ⟨b6, rfl, rfl, rfl⟩ hF hS
    refine wpList_nil (hK13 _ _ ?_)
    refine reglS fun K14 hK14 => ?_
    refine lQ hF hS (q0 (q_mkf rfl rfl) <| sq_end) fun a w hF hS => ?_
    refine eQ hF hS rfl (ef_store1 ty129 0 rfl rfl rfl rfl (by simp)) ?_
    rintro _ _ _ a w ⟨rfl, rfl, rfl⟩ hF hS
    (try simp only [sC] at hS)
    replace hS := nl0_6 hS
    refine wpList_nil (hK14 _ _ ?_)
    refine reglS fun K15 hK15 => ?_
    refine lQ hF hS (q0 (q_ld_blk1 ty129 0 rfl rfl rfl rfl) <| q0 (q_fieldAddr ty50 rfl rfl (s' := 0) kQ) <| q0 (q_ld_blk1 ty3 5 rfl rfl rfl rfl) <| sq_end) fun a w hF hS => ?_
    replace hS := hS.perm (.swap _ _ _)
    replace hS := hS.perm P1_4
    replace hS := hS.perm (.cons _ (.cons _ (.cons _ (.swap _ _ _))))
    replace hS := hS.perm (.cons _ (.cons _ (.swap _ _ _)))
    replace hS := hS.perm (.cons _ (.cons _ (.cons _ (.swap _ _ _))))
    replace hS := nl0_6 hS
    refine eQ hF hS rfl (ef_callvxN 5 fn93 rfl rfl (by exact (under_all _ _ _ _ _ _ _ _ ql fn rfl (sl_one' hsd) hl9 hx9 omQ _ _ _ _ hb hg1 zn _ _ 0 zn _ qd true rfl omQ omQ (Nat.le_refl _) omQ hs16 hsd ))) ?_
    rintro _ _ _ a w ⟨_, _, rfl, rfl, ⟨sv1, rfl, rfl, hsd1, rfl⟩⟩ hF hS
    rw [← hσ] at hF hS hsd1
    replace hS := nl0_6 hS
    refine eQ hF hS rfl (ef_allocA ty29) ?_
    rintro _ _ _ a w ⟨b8, rfl, rfl, rfl⟩ hF hS
    rw [show List.replicate 16 (Value.int .u8 0) = (List.replicate 16 (0 : UInt8)).map vb from by rw [List.map_replicate] <;> rfl] at hS
    refine eQ hF hS rfl (ef_storeW ty29 0 rfl rfl rfl rfl bQ oQ bQ) ?_
    rintro _ _ _ a w ⟨rfl, rfl, rfl⟩ hF hS
    replace hS : St _ [] [_, _, _, _, _, _, _] _ := hS
    refine wpList_nil (hK15 _ _ ?_)
    refine k0 ?_; intro K16 hK16
    refine regq mixed kQ hS ?_
    refine wpq_seg hF (q0 (q_ld_blk1 ty4 1 rfl rfl rfl rfl) <| mQ rfl <| sq_end) fun a hF => ?_
    refine wpq_and 1 73 3 hF rfl rfl rfl rfl rfl (fun hg => have hg := hg; sq_go 73 rfl rfl rfl (q_ld_blk1 ty48 4 rfl rfl rfl rfl) <| sq_go 73 rfl rfl rfl (q_len_sl ty48 hsd1 rfl) <| sq_go 73 rfl rfl rfl (q_eqi rfl rfl) <| sq_end) rfl rfl fun a hF => ?_
    refine wpq_seg hF (mQ rfl <| sq_end) fun a hF => ?_
    refine wpq_and 6 78 6 hF rfl rfl rfl rfl rfl (fun hg => have hg := hg; sq_go 78 rfl rfl rfl (q_fieldAddr ty50 rfl rfl (s' := 0) kQ) <| sq_go 78 rfl rfl rfl (q_ld_blk1 ty3 2 rfl rfl rfl rfl) <| sq_go 78 rfl rfl rfl (q_ld_blkW ty29 0 rfl rfl bQ rfl) <| sq_go 78 rfl rfl rfl (q_call fn50 rfl (fun w hS => root_ct _ _ hg16 omQ w (hS.ext _ _ hg1)) hI) <| sq_go 78 rfl rfl rfl (q_ld_blkW ty29 6 rfl rfl bQ rfl) <| sq_go 78 rfl rfl rfl (q_eqAB ty29 ty5 kQ rfl rfl bQ bQ) <| sq_end) rfl rfl fun a hF => ?_
    refine wpq_seg hF (aQ rfl <| sq_end) fun a hF => ?_
    refine wpq_nil ?_
    clear hS; intro w hS
    refine hK16 _ _ ?_
    refine wp_ret ?_
    exact fn_ret (rs := [.tmp 4]) rfl hF hS (vs := [_]) ⟨rfl, trivial⟩ zQ zQ (by rw [Mk.und_n hok (by dsimp only; omega) hnl]; exact congrArg Value.bool (Mk.con_ug (q := ⟨fn, zn, ql, qd⟩) hz1 hσ))
end
section
theorem fn61 : FnOk Tryd.prog 61 := fQ Tryd.func61
attribute [local irreducible] Sha.sum Sha.mac Sha.ofD Wi.int Wi.ints Wi.bytes Sha.inp Mk.half Lib.compareBytes Mk.frm Mk.rootD
theorem check_ct (q : Mk.Pf) (lv sv : Value) (rd k : List UInt8) (hr : rd.length = 16) (w : World) (hb : Sl encF (ph w) lv q.lv) (hsd : Sl (encA 16) (ph w) sv q.sd) {fz1 : Nat × Nat} {bt1 : TypeId} (hg1 : w.heap[2]? = some (.cells (Sha.kc.map vw).toArray bt1 fz1)) : Ct Tryd.prog 29 [.agg ((rd).map vb).toArray, vs k, .agg [vi q.fst, vi q.sz, lv, sv].toArray] w (fun r _ _ => r = .tuple [vs (Mk.chkE rd k q).1, .bool (Mk.chkE rd k q).2.1, vi (Mk.chkE rd k q).2.2].toArray) := by
 refine fn_enter Tryd.func29 rfl Tryd.ntmps29 lB fun a hF hS => ?_
 obtain ⟨qf, qs, ql, qd⟩ := q
 dsimp only at hF hb hsd
 have hbl := hb.1
 have hdl : qd.length ≤ 140737488355328 := hsd.1
 have hs16 : ∀ d ∈ qd, d.length = 16 := sl_A hsd
 refine reglS fun K1 hK1 => ?_
 refine eQ hF hS rfl (ef_boxA rfl) ?_
 rintro _ _ _ a w ⟨b1, rfl, rfl, rfl⟩ hF hS
 refine eQ hF hS rfl (ef_boxA rfl) ?_
 rintro _ _ _ a w ⟨b2, rfl, rfl, rfl⟩ hF hS
 refine lQ hF hS (aQ rfl <| aQ rfl <| aQ rfl <| sq_end) fun a w hF hS => ?_
 refine wpList_nil (hK1 _ _ ?_)
 refine k0 ?_; intro K2 hK2
 refine regS hF hS (q0 (q_ld_blkW ty50 0 rfl rfl bQ rfl) <| q0 (q_ld_blkW ty29 1 rfl rfl bQ rfl) <| q0 (q_call fn61 rfl (fun w hS => under_ct (⟨qf, qs, ql, qd⟩ : Mk.Pf) _ _ rd (by first | with_reducible assumption | omega) w (Sl.mono (hS.le zin0) hb) (Sl.mono (hS.le zin0) hsd) (hS.ext _ _ hg1)) hI) <| q0 (q_not rfl) <| sq_end) fun a w hF hS => ?_
 refine wp_if hF rfl (fun hc1 => ?_) (fun hc1 => ?_)
 ·have hu : Mk.undB ⟨qf, qs, ql, qd⟩ rd = false := by simpa using hc1
  refine regS hF hS (aQ rfl <| aQ rfl <| aQ rfl <| sq_end) fun a w hF hS => ?_
  refine wp_ret ?_
  exact fn_ret (rs := [.tmp 6, .tmp 7, .tmp 8]) rfl hF hS (vs := [_, _, _]) ⟨rfl, rfl, rfl, trivial⟩ zQ zQ (by rw [Mk.chk_n hu])
 ·have hu : Mk.undB ⟨qf, qs, ql, qd⟩ rd = true := by simpa using hc1
  have hok := Mk.und_ok hu
  have hv0 : Mk.vE ql = 0 := hok.2.2.2.2.2
  have hva := Mk.vE_asc hv0
  have hrg : 0 ≤ qs ∧ qs ≤ 4096 ∧ 0 ≤ qf ∧ qf ≤ qs ∧ qf + ql.length ≤ qs := ⟨hok.1, hok.2.1, hok.2.2.1, hok.2.2.2.1, hok.2.2.2.2.1⟩
  have hfl := Mk.frm_le ql k
  refine wp_skip ?_
  refine hK2 _ _ ?_
  refine regS hF hS (q0 (q_fieldAddr ty50 rfl rfl (s' := 0) kQ) <| q0 (q_ld_blk1 ty33 0 rfl rfl rfl rfl) <| mQ rfl <| q0 (q_call fn56 rfl (fun w hS => from_ct _ _ _ hva.1 omQ w (Sl.mono (hS.le zin0) hb)) hI) <| aQ rfl <| sq_end) fun a w hF hS => ?_
  refine k0 ?_; intro K6 hK6
  refine wp_block ?_
  refine reglS fun K7 hK7 => ?_
  refine lQ hF hS (mQ rfl <| q0 (q_fieldAddr ty50 rfl rfl (s' := 0) kQ) <| q0 (q_ld_blk1 ty33 0 rfl rfl rfl rfl) <| q0 (q_len_sl ty33 hb rfl) <| q0 (q_lti rfl rfl) <| mQ rfl <| sq_end) fun a w hF hS => ?_
  refine wpl_and 5 24 8 hF hS rfl rfl rfl rfl rfl (fun hg => have hg := (by first | exact of_decide_eq_true hg | exact hg); sq_go 24 rfl rfl rfl (q_fieldAddr ty50 rfl rfl (s' := 0) kQ) <| sq_go 24 rfl rfl rfl (q_ld_blk1 ty33 0 rfl rfl rfl rfl) <| sq_go 24 rfl rfl rfl (q_move rfl) <| sq_go 24 rfl rfl rfl (q_idx_sl ty33 ty41 hb rfl rfl omQ) <| sq_go 24 rfl rfl rfl (q_fld_F ty41 hb rfl omQ rfl (s' := 0) kQ) <| sq_go 24 rfl rfl rfl (q_ld_FK ty9 hb zin0 rfl rfl omQ) <| sq_go 24 rfl rfl rfl (q_move rfl) <| sq_go 24 rfl rfl rfl (q_eqs rfl rfl) <| sq_end) rfl rfl fun a w hF hS => ?_
  refine lQ hF hS (aQ rfl <| sq_end) fun a w hF hS => ?_
  refine wpList_nil (hK7 _ _ ?_)
  refine wp_if hF rfl (fun hc2 => ?_) (fun hc2 => ?_)
  ·(try simp only [bS] at hc2)
   have hfd : Mk.fnd ql k = true := by
    simp only [Int.toNat_natCast] at hc2
    exact Mk.fnd_t omQ hc2.2
   have hfd2 := (Mk.fnd_iff.1 hfd).1
   refine regS hF hS (q0 (q_fieldAddr ty50 rfl rfl (s' := 0) kQ) <| q0 (q_ld_blk1 ty33 0 rfl rfl rfl rfl) <| mQ rfl <| q0 (q_idx_sl ty33 ty41 hb rfl rfl omQ) <| q0 (q_fld_F ty41 hb rfl omQ rfl (s' := 0) kQ) <| q0 (q_ld_FV ty9 hb zin0 rfl rfl omQ) <| aQ rfl <| aQ rfl <| aQ rfl <| sq_end) fun a w hF hS => ?_
   refine wp_ret ?_
   exact fn_ret (rs := [.tmp 6, .tmp 7, .tmp 8]) rfl hF hS (vs := [_, _, _]) ⟨rfl, rfl, rfl, trivial⟩ zQ zQ (by rw [Mk.chk_t hu hfd, Int.toNat_natCast])
  ·(try simp only [bS] at hc2)
   have hfd : Mk.fnd ql k = false := by
    simp only [Int.toNat_natCast] at hc2
    exact Mk.fnd_f (fun h9 => by rcases hc2 with h | h; exact h omQ; exact h h9.2)
   refine reglS fun K9 hK9 => ?_
   refine lQ hF hS (mQ rfl <| q0 (q_gti rfl rfl) <| mQ rfl <| sq_end) fun a w hF hS => ?_
   refine wpl_or 2 43 3 hF hS rfl rfl rfl rfl rfl (fun hg => have hg := (by first | exact of_decide_eq_false hg | exact hg); sq_go 43 rfl rfl rfl (q_fieldAddr ty50 rfl rfl (s' := 0) kQ) <| sq_go 43 rfl rfl rfl (q_ld_blk1 ty3 0 rfl rfl rfl rfl) <| sq_go 43 rfl rfl rfl (q_eqi rfl rfl) <| sq_end) rfl rfl fun a w hF hS => ?_
   refine lQ hF hS (mQ rfl <| sq_end) fun a w hF hS => ?_
   refine wpl_andG (q := (decide (((Mk.frm ql k : Nat) : Int) < (ql.length : Int)) || decide (qf + (ql.length : Int) = qs))) 48 16 hF hS rfl (by rfl) rfl (fun _ => sq_skip 48 rfl rfl rfl rfl <| sq_skip 48 rfl rfl rfl rfl <| sq_skip 48 rfl rfl rfl rfl <| sq_skip 48 rfl rfl rfl rfl <| sq_skip 48 rfl rfl rfl rfl <| sq_skip 48 rfl rfl rfl rfl <| sq_skipu 54 rfl rfl rfl <| sq_skipu 54 rfl rfl rfl <| sq_skipu 54 rfl rfl rfl <| sq_skipu 54 rfl rfl rfl <| sq_skipu 54 rfl rfl rfl <| sq_skipu 54 rfl rfl rfl <| sq_skipu 54 rfl rfl rfl <| sq_skipu 54 rfl rfl rfl <| sq_skipu 54 rfl rfl rfl <| sq_skip 48 rfl rfl rfl rfl <| sq_end) rfl (fun hg a w hF hS KG => ?_) ?_
   ·have hg := hg
    refine lQ hF hS (sq_go 48 rfl rfl rfl (q_move rfl) <| sq_go 48 rfl rfl rfl (q_fieldAddr ty50 rfl rfl (s' := 0) kQ) <| sq_go 48 rfl rfl rfl (q_ld_blk1 ty33 0 rfl rfl rfl rfl) <| sq_go 48 rfl rfl rfl (q_len_sl ty33 hb rfl) <| sq_go 48 rfl rfl rfl (q_lti rfl rfl) <| sq_go 48 rfl rfl rfl (q_move rfl) <| sq_end) fun a w hF hS => ?_
    refine wpl_orP 13 54 9 7 48 hF hS rfl rfl rfl rfl rfl rfl rfl (fun hg2 => have hg2 := (by first | exact of_decide_eq_false hg2 | exact hg2); sq_go 54 rfl rfl rfl (q_fieldAddr ty50 rfl rfl (s' := 0) kQ) <| sq_go 54 rfl rfl rfl (q_ld_blk1 ty3 0 rfl rfl rfl rfl) <| sq_go 54 rfl rfl rfl (q_fieldAddr ty50 rfl rfl (s' := 0) kQ) <| sq_go 54 rfl rfl rfl (q_ld_blk1 ty33 0 rfl rfl rfl rfl) <| sq_go 54 rfl rfl rfl (q_len_sl ty33 hb rfl) <| sq_go 54 rfl rfl rfl (q_addi rfl rfl omQ) <| sq_go 54 rfl rfl rfl (q_fieldAddr ty50 rfl rfl (s' := 0) kQ) <| sq_go 54 rfl rfl rfl (q_ld_blk1 ty3 0 rfl rfl rfl rfl) <| sq_go 54 rfl rfl rfl (q_eqi rfl rfl) <| sq_end) rfl rfl fun a w hF hS => ?_
    refine lQ hF hS (q0 (q_pick_t rfl rfl) <| sq_end) fun a w hF hS => ?_
    exact KG _ _ (hF.under 7 rfl rfl) hS
   clear hF hS; intro a w hF hS
   refine lQ hF hS (aQ rfl <| sq_end) fun a w hF hS => ?_
   refine wpList_nil (hK9 _ _ ?_)
   refine wp_if hF rfl (fun hc3 => ?_) (fun hc3 => ?_)
   ·(try simp only [bS] at hc3)
    refine regS hF hS (aQ rfl <| aQ rfl <| aQ rfl <| sq_end) fun a w hF hS => ?_
    refine wp_ret ?_
    exact fn_ret (rs := [.tmp 6, .tmp 7, .tmp 8]) rfl hF hS (vs := [_, _, _]) ⟨rfl, rfl, rfl, trivial⟩ zQ zQ (by rw [Mk.chk_f hu hfd (by dsimp only; omega)])
   ·(try simp only [bS] at hc3)
    refine wp_skip ?_
    refine hK6 _ _ ?_
    refine regS hF hS (aQ rfl <| aQ rfl <| aQ rfl <| sq_end) fun a w hF hS => ?_
    refine wp_ret ?_
    exact fn_ret (rs := [.tmp 6, .tmp 7, .tmp 8]) rfl hF hS (vs := [_, _, _]) ⟨rfl, rfl, rfl, trivial⟩ zQ zQ (by rw [Mk.chk_x hu hfd (by dsimp only; omega)])
theorem chkr_ct (q : Mk.Pf) (lv sv : Value) (rd k m : List UInt8) (hr : rd.length = 16) (w : World) (hb : Sl encF (ph w) lv q.lv) (hsd : Sl (encA 16) (ph w) sv q.sd) {fz1 : Nat × Nat} {bt1 : TypeId} (hg1 : w.heap[2]? = some (.cells (Sha.kc.map vw).toArray bt1 fz1)) : Ct Tryd.prog 32 [.agg ((rd).map vb).toArray, vs k, vs m, .agg [vi q.fst, vi q.sz, lv, sv].toArray] w (SlE encF (Mk.chkR rd k m q).1 (Mk.chkR rd k m q).2) := by
 refine fn_enter Tryd.func32 rfl Tryd.ntmps32 lB fun a hF hS => ?_
 obtain ⟨qf, qs, ql, qd⟩ := q
 dsimp only at hF hb hsd
 have hbl := hb.1
 have hdl : qd.length ≤ 140737488355328 := hsd.1
 have hs16 : ∀ d ∈ qd, d.length = 16 := sl_A hsd
 refine reglS fun K1 hK1 => ?_
 refine eQ hF hS rfl (ef_boxA rfl) ?_
 rintro _ _ _ a w ⟨b1, rfl, rfl, rfl⟩ hF hS
 refine eQ hF hS rfl (ef_boxA rfl) ?_
 rintro _ _ _ a w ⟨b2, rfl, rfl, rfl⟩ hF hS
 refine lQ hF hS (aQ rfl <| aQ rfl <| sq_end) fun a w hF hS => ?_
 refine wpList_nil (hK1 _ _ ?_)
 refine k0 ?_; intro K2 hK2
 refine regS hF hS (mQ rfl <| mQ rfl <| q0 (q_lts rfl rfl) <| sq_end) fun a w hF hS => ?_
 refine wp_if hF rfl (fun hc1 => ?_) (fun hc1 => ?_)
 ·have hlm : Mk.lt m k = true := hc1
  refine regS hF hS (aQ rfl <| aQ rfl <| sq_end) fun a w hF hS => ?_
  refine wp_ret ?_
  replace hS := hS.zone00
  exact fn_ret (rs := [.tmp 8, .tmp 9]) rfl hF hS (vs := [_, _]) ⟨rfl, rfl, trivial⟩ (zs' := [_]) (hs' := []) (List.singleton_sublist.2 (by simp)) zQ (se_of ⟨_, _, (sl_nil (z := fun _ => none)), rfl, rfl, rfl⟩ (by rw [Mk.chkR_5 hlm]) (by rw [Mk.chkR_5 hlm]))
 ·have hlm : Mk.lt m k = false := hc1
  refine wp_skip ?_
  refine hK2 _ _ ?_
  refine k0 ?_; intro K5 hK5
  refine regS hF hS (q0 (q_ld_blkW ty50 0 rfl rfl bQ rfl) <| q0 (q_ld_blkW ty29 1 rfl rfl bQ rfl) <| q0 (q_call fn61 rfl (fun w hS => under_ct (⟨qf, qs, ql, qd⟩ : Mk.Pf) _ _ rd (by first | with_reducible assumption | omega) w (Sl.mono (hS.le zin0) hb) (Sl.mono (hS.le zin0) hsd) (hS.ext _ _ hg1)) hI) <| q0 (q_not rfl) <| sq_end) fun a w hF hS => ?_
  refine wp_if hF rfl (fun hc2 => ?_) (fun hc2 => ?_)
  ·have hu : Mk.undB ⟨qf, qs, ql, qd⟩ rd = false := by simpa using hc2
   refine regS hF hS (aQ rfl <| aQ rfl <| sq_end) fun a w hF hS => ?_
   refine wp_ret ?_
   replace hS := hS.zone00
   exact fn_ret (rs := [.tmp 8, .tmp 9]) rfl hF hS (vs := [_, _]) ⟨rfl, rfl, trivial⟩ (zs' := [_]) (hs' := []) (List.singleton_sublist.2 (by simp)) zQ (se_of ⟨_, _, (sl_nil (z := fun _ => none)), rfl, rfl, rfl⟩ (by rw [Mk.chkR_n hlm hu]) (by rw [Mk.chkR_n hlm hu]))
  ·have hu : Mk.undB ⟨qf, qs, ql, qd⟩ rd = true := by simpa using hc2
   have hok := Mk.und_ok hu
   have hv0 : Mk.vE ql = 0 := hok.2.2.2.2.2
   have hva := Mk.vE_asc hv0
   have hrg : 0 ≤ qs ∧ qs ≤ 4096 ∧ 0 ≤ qf ∧ qf ≤ qs ∧ qf + ql.length ≤ qs := ⟨hok.1, hok.2.1, hok.2.2.1, hok.2.2.2.1, hok.2.2.2.2.1⟩
   have hfl := Mk.frm_le ql k
   have hfm := Mk.frm_le ql m
   have hmo := Mk.frm_mono (ls := ql) hlm
   refine wp_skip ?_
   refine hK5 _ _ ?_
   refine regdS mixed kQ hF hS (q0 (q_fieldAddr ty50 rfl rfl (s' := 0) kQ) <| q0 (q_ld_blk1 ty33 0 rfl rfl rfl rfl) <| mQ rfl <| q0 (q_call fn56 rfl (fun w hS => from_ct _ _ _ hva.1 omQ w (Sl.mono (hS.le zin0) hb)) hI) <| q0 (q_fieldAddr ty50 rfl rfl (s' := 0) kQ) <| q0 (q_ld_blk1 ty33 0 rfl rfl rfl rfl) <| mQ rfl <| q0 (q_call fn56 rfl (fun w hS => from_ct _ _ _ hva.1 omQ w (Sl.mono (hS.le zin0) hb)) hI) <| q0 (q_fieldAddr ty50 rfl rfl (s' := 0) kQ) <| q0 (q_ld_blk1 ty33 0 rfl rfl rfl rfl) <| q0 (q_len_sl ty33 hb rfl) <| aQ rfl <| aQ rfl <| aQ rfl <| sq_end) fun a w hF hS => ?_
   refine k0 ?_; intro K9 hK9
   refine reglS fun K10 hK10 => ?_
   refine lQ hF hS (q0 (q_fieldAddr ty50 rfl rfl (s' := 0) kQ) <| q0 (q_ld_blk1 ty3 0 rfl rfl rfl rfl) <| q0 (q_gti rfl rfl) <| mQ rfl <| sq_end) fun a w hF hS => ?_
   refine wpl_and 3 34 2 hF hS rfl rfl rfl rfl rfl (fun hg => have hg := (by first | exact of_decide_eq_true hg | exact hg); sq_go 34 rfl rfl rfl (q_move rfl) <| sq_go 34 rfl rfl rfl (q_eqi rfl rfl) <| sq_end) rfl rfl fun a w hF hS => ?_
   refine lQ hF hS (mQ rfl <| sq_end) fun a w hF hS => ?_
   refine wpl_orG (q := (decide (qf + (ql.length : Int) < qs) && decide (((Mk.frm ql m : Nat) : Int) = (ql.length : Int)))) 38 12 hF hS rfl (by rfl) rfl (fun _ => sq_skip 38 rfl rfl rfl rfl <| sq_skip 38 rfl rfl rfl rfl <| sq_skip 38 rfl rfl rfl rfl <| sq_skip 38 rfl rfl rfl rfl <| sq_skip 38 rfl rfl rfl rfl <| sq_skip 38 rfl rfl rfl rfl <| sq_skip 38 rfl rfl rfl rfl <| sq_skip 38 rfl rfl rfl rfl <| sq_skipu 46 rfl rfl rfl <| sq_skipu 46 rfl rfl rfl <| sq_skipu 46 rfl rfl rfl <| sq_skip 38 rfl rfl rfl rfl <| sq_end) rfl (fun hg a w hF hS KG => ?_) ?_
   ·have hg := hg
    refine lQ hF hS (sq_go 38 rfl rfl rfl (q_fieldAddr ty50 rfl rfl (s' := 0) kQ) <| sq_go 38 rfl rfl rfl (q_ld_blk1 ty3 0 rfl rfl rfl rfl) <| sq_go 38 rfl rfl rfl (q_move rfl) <| sq_go 38 rfl rfl rfl (q_addi rfl rfl omQ) <| sq_go 38 rfl rfl rfl (q_fieldAddr ty50 rfl rfl (s' := 0) kQ) <| sq_go 38 rfl rfl rfl (q_ld_blk1 ty3 0 rfl rfl rfl rfl) <| sq_go 38 rfl rfl rfl (q_lti rfl rfl) <| sq_go 38 rfl rfl rfl (q_move rfl) <| sq_end) fun a w hF hS => ?_
    refine wpl_andP 15 46 3 7 38 hF hS rfl rfl rfl rfl rfl rfl rfl (fun hg2 => have hg2 := (by first | exact of_decide_eq_true hg2 | exact hg2); sq_go 46 rfl rfl rfl (q_move rfl) <| sq_go 46 rfl rfl rfl (q_move rfl) <| sq_go 46 rfl rfl rfl (q_eqi rfl rfl) <| sq_end) rfl rfl fun a w hF hS => ?_
    refine lQ hF hS (q0 (q_pick_f rfl rfl) <| sq_end) fun a w hF hS => ?_
    exact KG _ _ (hF.under 9 rfl rfl) hS
   clear hF hS; intro a w hF hS
   refine wpList_nil (hK10 _ _ ?_)
   refine wp_if hF rfl (fun hc3 => ?_) (fun hc3 => ?_)
   ·(try simp only [bS] at hc3)
    have hbd : Mk.badR ⟨qf, qs, ql, qd⟩ k m := by unfold Mk.badR; dsimp only; omega
    refine regS hF hS (aQ rfl <| aQ rfl <| sq_end) fun a w hF hS => ?_
    refine wp_ret ?_
    replace hS := hS.zone00
    exact fn_ret (rs := [.tmp 8, .tmp 9]) rfl hF hS (vs := [_, _]) ⟨rfl, rfl, trivial⟩ (zs' := [_]) (hs' := []) (List.singleton_sublist.2 (by simp)) zQ (se_of ⟨_, _, (sl_nil (z := fun _ => none)), rfl, rfl, rfl⟩ (by rw [Mk.chkR_b hlm hu hbd]) (by rw [Mk.chkR_b hlm hu hbd]))
   ·(try simp only [bS] at hc3)
    have hbd : ¬ Mk.badR ⟨qf, qs, ql, qd⟩ k m := by unfold Mk.badR; dsimp only; omega
    refine wp_skip ?_
    refine hK9 _ _ ?_
    refine reglS fun K12 hK12 => ?_
    refine lQ hF hS (q0 (q_fieldAddr ty50 rfl rfl (s' := 0) kQ) <| q0 (q_ld_blk1 ty33 0 rfl rfl rfl rfl) <| mQ rfl <| mQ rfl <| q0 (q_slsl_lo_hi ty33 ty41 hb rfl rfl rfl omQ) <| sq_end) fun a w hF hS => ?_
    refine eQ hF hS rfl (ef_call fn63 rfl (fun w hS => cloneL_ct _ _ (by rw [List.length_drop, List.length_take]; omega) w (Sl.mono (hS.le zin0) (Sl.cut hb omQ)))) ?_
    rintro v3 _ _ a w ⟨_, _, rfl, rfl, ⟨z4, hz5, rfl, rfl⟩⟩ hF hS
    replace hS : St _ [_] [_, _] _ := hS
    refine lQ hF hS (aQ rfl <| aQ rfl <| sq_end) fun a w hF hS => ?_
    refine wpList_nil (hK12 _ _ ?_)
    refine wp_ret ?_
    exact fn_ret (rs := [.tmp 8, .tmp 9]) rfl hF hS (vs := [_, _]) ⟨rfl, rfl, trivial⟩ (zs' := [_]) (hs' := []) (List.singleton_sublist.2 (by simp)) zQ (se_of ⟨_, _, hz5, rfl, rfl, rfl⟩ (by rw [Mk.chkR_t hlm hu hbd, Int.toNat_natCast, Int.toNat_natCast]) (by rw [Mk.chkR_t hlm hu hbd]))
end
section
theorem fn13 : FnOk Tryd.prog 13 := fQ Tryd.func13
theorem fn18 : FnOk Tryd.prog 18 := fQ Tryd.func18
theorem fn34 : FnOk Tryd.prog 34 := fQ Tryd.func34
theorem fn60 : FnOk Tryd.prog 60 := fQ Tryd.func60
attribute [local irreducible] Sha.sum Sha.mac Sha.ofD Wi.int Wi.ints Wi.bytes Sha.inp Mk.half Lib.compareBytes Mk.frm Mk.rootD
/-- A proof whose leaves are copied. -/
def PmR (q : Mk.Pf) (sv : Value) : Value → List PH → List Res → Prop := fun r zs hs => ∃ lv z, r = .agg [vi q.fst, vi q.sz, lv, sv].toArray ∧ Sl encF z lv q.lv ∧ zs = [z] ∧ hs = []
theorem proof_ct (q : Mk.Pf) (lv sv : Value) (hl9 : q.lv.length < 1048576) (w : World) (hb : Sl encF (ph w) lv q.lv) (hsd : Sl (encA 16) (ph w) sv q.sd)  : Ct Tryd.prog 30 [.agg [vi q.fst, vi q.sz, lv, sv].toArray] w (PmR q sv) := by
 refine fn_enter Tryd.func30 rfl Tryd.ntmps30 lB fun a hF hS => ?_
 have hbl := hb.1
 refine reglS fun K1 hK1 => ?_
 refine eQ hF hS rfl (ef_boxA rfl) ?_
 rintro _ _ _ a w ⟨b1, rfl, rfl, rfl⟩ hF hS
 refine eQ hF hS rfl (ef_allocA ty50) ?_
 rintro _ _ _ a w ⟨b2, rfl, rfl, rfl⟩ hF hS
 refine wpList_nil (hK1 _ _ ?_)
 refine k0 ?_; intro K2 hK2
 revert hS; revert hF; apply regJ (J := J2 (α0 := Value) (α1 := PH) 13 _ _ _ _ _) #[false, false, false, false, false, false, false, false, false, false, false] 11 mixed rfl rfl
 ·intro w hF hS
  refine tQ 0 rfl hF (hS.keep sQ zQ) (q_fieldAddr ty54 rfl rfl (s' := 0) kQ) fun a hF => ?_
  refine tQ 1 rfl hF (hS.keep sQ (sN1)) (q_ld_blk1 ty3 0 rfl rfl rfl rfl) fun a hF => ?_
  refine tQ 2 rfl hF (hS.keep sQ zQ) (q_fieldAddr ty54 rfl rfl (s' := 0) kQ) fun a hF => ?_
  refine tQ 3 rfl hF (hS.keep sQ (sN1)) (q_ld_blk1 ty3 0 rfl rfl rfl rfl) fun a hF => ?_
  refine tQ 4 rfl hF (hS.keep sQ zQ) (q_fieldAddr ty54 rfl rfl (s' := 0) kQ) fun a hF => ?_
  refine tQ 5 rfl hF (hS.keep sQ (sN1)) (q_ld_blk1 ty24 0 rfl rfl rfl rfl) fun a hF => ?_
  refine tQ 7 rfl hF (hS.keep sQ zQ) (q_fieldAddr ty54 rfl rfl (s' := 0) kQ) fun a hF => ?_
  refine tQ 8 rfl hF (hS.keep sQ (sN1)) (q_ld_blk1 ty48 0 rfl rfl rfl rfl) fun a hF => ?_
  refine gQ 6 rfl rfl hF hS rfl (ef_call fn13 rfl (fun w hS => own_ct _ _ hl9 w (Sl.mono (hS.le zin0) hb))) ?_
  rintro v_1_6 _ _ a w ⟨_, _, rfl, rfl, ⟨z_1_6, hz_1_6, rfl, rfl⟩⟩ hF hS
  refine ⟨⟨.inr (hS.k1 (sN1)), .inr hS.k0, iQ, iQ, .inr (hS.k1 (sN1)), .inr hS.k0, .inr (hS.k1 (sN1)), .inr hS.k0, trivial⟩, ?_⟩
  refine tQ 9 rfl hF (hS.keep sQ zQ) (q_buildS1 ty50 4 kQ rfl rfl (oc_cons rfl (oc_cons rfl (oc_cons (sl_one' hz_1_6) (oc_cons (sl_one' hsd) oc_nil)))) rfl rfl) fun a hF => ?_
  refine gQ 10 rfl rfl hF hS rfl (ef_storeW ty50 0 rfl rfl rfl rfl bQ (oc_cons rfl (oc_cons rfl (oc_cons (sl_one' hz_1_6) (oc_cons (sl_one' hsd) oc_nil)))) bQ) ?_
  rintro _ _ _ a w ⟨rfl, rfl, rfl⟩ hF hS
  refine ⟨⟨iQ, iQ, iQ, iQ, iQ, iQ, iQ, iQ, iQ, trivial⟩, ?_⟩
  exact goW_done kQ (j2_mk v_1_6 z_1_6 ((And.intro hz_1_6 trivial)) (hF.sub (L' := [(2, _)]) ⟨rfl, trivial⟩) hS)
 rintro a w ⟨v_1_6, z_1_6, ⟨hz_1_6, -⟩, hF, hS⟩
 (try dsimp only at hF hS)
 refine hK2 _ _ ?_
 refine wp_ret ?_
 exact fn_ret (rs := [.cell 2 50]) rfl hF hS (vs := [_]) ⟨⟨_, _, _, _, _, _, _, rfl, List.mem_of_getElem? (i := 0) rfl, ty50, .inl ⟨rfl, bQ, rfl⟩⟩, trivial⟩ (zs' := [_]) (hs' := []) (List.singleton_sublist.2 (by simp)) zQ ⟨_, _, rfl, hz_1_6, rfl, rfl⟩
theorem model_ct (q : Mk.Pf) (lv sv : Value) (hl9 : q.lv.length < 1048576) (w : World) (hb : Sl encF (ph w) lv q.lv) (hsd : Sl (encA 16) (ph w) sv q.sd)  : Ct Tryd.prog 27 [.agg [vi q.fst, vi q.sz, lv, sv].toArray] w (PmR q sv) := by
 refine fn_enter Tryd.func27 rfl Tryd.ntmps27 lB fun a hF hS => ?_
 have hbl := hb.1
 refine reglS fun K1 hK1 => ?_
 refine eQ hF hS rfl (ef_boxA rfl) ?_
 rintro _ _ _ a w ⟨b1, rfl, rfl, rfl⟩ hF hS
 refine eQ hF hS rfl (ef_allocA ty54) ?_
 rintro _ _ _ a w ⟨b2, rfl, rfl, rfl⟩ hF hS
 refine wpList_nil (hK1 _ _ ?_)
 refine k0 ?_; intro K2 hK2
 revert hS; revert hF; apply regJ (J := J2 (α0 := Value) (α1 := PH) 13 _ _ _ _ _) #[false, false, false, false, false, false, false, false, false, false, false] 11 mixed rfl rfl
 ·intro w hF hS
  refine tQ 0 rfl hF (hS.keep sQ zQ) (q_fieldAddr ty50 rfl rfl (s' := 0) kQ) fun a hF => ?_
  refine tQ 1 rfl hF (hS.keep sQ (sN1)) (q_ld_blk1 ty3 0 rfl rfl rfl rfl) fun a hF => ?_
  refine tQ 2 rfl hF (hS.keep sQ zQ) (q_fieldAddr ty50 rfl rfl (s' := 0) kQ) fun a hF => ?_
  refine tQ 3 rfl hF (hS.keep sQ (sN1)) (q_ld_blk1 ty3 0 rfl rfl rfl rfl) fun a hF => ?_
  refine tQ 4 rfl hF (hS.keep sQ zQ) (q_fieldAddr ty50 rfl rfl (s' := 0) kQ) fun a hF => ?_
  refine tQ 5 rfl hF (hS.keep sQ (sN1)) (q_ld_blk1 ty33 0 rfl rfl rfl rfl) fun a hF => ?_
  refine tQ 7 rfl hF (hS.keep sQ zQ) (q_fieldAddr ty50 rfl rfl (s' := 0) kQ) fun a hF => ?_
  refine tQ 8 rfl hF (hS.keep sQ (sN1)) (q_ld_blk1 ty48 0 rfl rfl rfl rfl) fun a hF => ?_
  refine gQ 6 rfl rfl hF hS rfl (ef_call fn18 rfl (fun w hS => plain_ct _ _ hl9 w (Sl.mono (hS.le zin0) hb))) ?_
  rintro v_1_6 _ _ a w ⟨_, _, rfl, rfl, ⟨z_1_6, hz_1_6, rfl, rfl⟩⟩ hF hS
  refine ⟨⟨.inr (hS.k1 (sN1)), .inr hS.k0, iQ, iQ, .inr (hS.k1 (sN1)), .inr hS.k0, .inr (hS.k1 (sN1)), .inr hS.k0, trivial⟩, ?_⟩
  refine tQ 9 rfl hF (hS.keep sQ zQ) (q_buildS1 ty54 4 kQ rfl rfl (oc_cons rfl (oc_cons rfl (oc_cons (sl_one' hz_1_6) (oc_cons (sl_one' hsd) oc_nil)))) rfl rfl) fun a hF => ?_
  refine gQ 10 rfl rfl hF hS rfl (ef_storeW ty54 0 rfl rfl rfl rfl bQ (oc_cons rfl (oc_cons rfl (oc_cons (sl_one' hz_1_6) (oc_cons (sl_one' hsd) oc_nil)))) bQ) ?_
  rintro _ _ _ a w ⟨rfl, rfl, rfl⟩ hF hS
  refine ⟨⟨iQ, iQ, iQ, iQ, iQ, iQ, iQ, iQ, iQ, trivial⟩, ?_⟩
  exact goW_done kQ (j2_mk v_1_6 z_1_6 ((And.intro hz_1_6 trivial)) (hF.sub (L' := [(2, _)]) ⟨rfl, trivial⟩) hS)
 rintro a w ⟨v_1_6, z_1_6, ⟨hz_1_6, -⟩, hF, hS⟩
 (try dsimp only at hF hS)
 refine hK2 _ _ ?_
 refine wp_ret ?_
 exact fn_ret (rs := [.cell 2 54]) rfl hF hS (vs := [_]) ⟨⟨_, _, _, _, _, _, _, rfl, List.mem_of_getElem? (i := 0) rfl, ty54, .inl ⟨rfl, bQ, rfl⟩⟩, trivial⟩ (zs' := [_]) (hs' := []) (List.singleton_sublist.2 (by simp)) zQ ⟨_, _, rfl, hz_1_6, rfl, rfl⟩
theorem samep_ct (p q : Mk.Pf) (lp sp lq sw : Value) (w : World) (hb1 : Sl encF (ph w) lp p.lv) (hd1 : Sl (encA 16) (ph w) sp p.sd) (hb2 : Sl encF (ph w) lq q.lv) (hd2 : Sl (encA 16) (ph w) sw q.sd) : Ct Tryd.prog 26 [.agg [vi p.fst, vi p.sz, lp, sp].toArray, .agg [vi q.fst, vi q.sz, lq, sw].toArray] w (fun r _ _ => r = .bool (Mk.samePf p q)) := by
 refine fn_enter Tryd.func26 rfl Tryd.ntmps26 lB fun a hF hS => ?_
 refine reglS fun K1 hK1 => ?_
 refine eQ hF hS rfl (ef_boxA rfl) ?_
 rintro _ _ _ a w ⟨b1, rfl, rfl, rfl⟩ hF hS
 refine eQ hF hS rfl (ef_boxA rfl) ?_
 rintro _ _ _ a w ⟨b2, rfl, rfl, rfl⟩ hF hS
 refine lQ hF hS (aQ rfl <| sq_end) fun a w hF hS => ?_
 refine wpList_nil (hK1 _ _ ?_)
 refine reglS fun K2 hK2 => ?_
 refine lQ hF hS (q0 (q_fieldAddr ty54 rfl rfl (s' := 0) kQ) <| q0 (q_ld_blk1 ty3 1 rfl rfl rfl rfl) <| q0 (q_fieldAddr ty54 rfl rfl (s' := 0) kQ) <| q0 (q_ld_blk1 ty3 0 rfl rfl rfl rfl) <| q0 (q_eqi rfl rfl) <| mQ rfl <| sq_end) fun a w hF hS => ?_
 refine wpl_and 5 10 5 hF hS rfl rfl rfl rfl rfl (fun hg => have hg := (by first | exact of_decide_eq_true hg | exact hg); sq_go 10 rfl rfl rfl (q_fieldAddr ty54 rfl rfl (s' := 0) kQ) <| sq_go 10 rfl rfl rfl (q_ld_blk1 ty3 1 rfl rfl rfl rfl) <| sq_go 10 rfl rfl rfl (q_fieldAddr ty54 rfl rfl (s' := 0) kQ) <| sq_go 10 rfl rfl rfl (q_ld_blk1 ty3 0 rfl rfl rfl rfl) <| sq_go 10 rfl rfl rfl (q_eqi rfl rfl) <| sq_end) rfl rfl fun a w hF hS => ?_
 refine lQ hF hS (mQ rfl <| sq_end) fun a w hF hS => ?_
 refine wpl_and 12 17 5 hF hS rfl rfl rfl rfl rfl (fun hg => have hg := hg; sq_go 17 rfl rfl rfl (q_fieldAddr ty54 rfl rfl (s' := 0) kQ) <| sq_go 17 rfl rfl rfl (q_ld_blk1 ty24 1 rfl rfl rfl rfl) <| sq_go 17 rfl rfl rfl (q_fieldAddr ty54 rfl rfl (s' := 0) kQ) <| sq_go 17 rfl rfl rfl (q_ld_blk1 ty24 0 rfl rfl rfl rfl) <| sq_go 17 rfl rfl rfl (q_call fn34 rfl (fun w hS => samel_ct _ _ _ _ w (Sl.mono (hS.le zin0) hb1) (Sl.mono (hS.le zin0) hb2)) hI) <| sq_end) rfl rfl fun a w hF hS => ?_
 refine lQ hF hS (mQ rfl <| sq_end) fun a w hF hS => ?_
 refine wpl_and 19 24 5 hF hS rfl rfl rfl rfl rfl (fun hg => have hg := hg; sq_go 24 rfl rfl rfl (q_fieldAddr ty54 rfl rfl (s' := 0) kQ) <| sq_go 24 rfl rfl rfl (q_ld_blk1 ty48 1 rfl rfl rfl rfl) <| sq_go 24 rfl rfl rfl (q_fieldAddr ty54 rfl rfl (s' := 0) kQ) <| sq_go 24 rfl rfl rfl (q_ld_blk1 ty48 0 rfl rfl rfl rfl) <| sq_go 24 rfl rfl rfl (q_call fn60 rfl (fun w hS => samed_ct _ _ _ _ w (Sl.mono (hS.le zin0) hd1) (Sl.mono (hS.le zin0) hd2)) hI) <| sq_end) rfl rfl fun a w hF hS => ?_
 refine lQ hF hS (aQ rfl <| sq_end) fun a w hF hS => ?_
 refine wpList_nil (hK2 _ _ ?_)
 refine wp_ret ?_
 exact fn_ret (rs := [.tmp 4]) rfl hF hS (vs := [_]) ⟨rfl, trivial⟩ zQ zQ (rfl)
end
section
theorem fn48 : FnOk Tryd.prog 48 := fQ Tryd.func48
theorem fn49 : FnOk Tryd.prog 49 := fQ Tryd.func49
attribute [local irreducible] Sha.sum Sha.mac Sha.ofD Wi.int Wi.ints Wi.bytes Sha.inp Mk.half Lib.compareBytes Mk.frm Mk.rootD Mk.keyB Gu.arnd Gu.atN
theorem keyB_ct (n : Int) (hn : 0 ≤ n ∧ n ≤ 1000000) (w : World) : Ct Tryd.prog 49 [vi n] w (fun r _ _ => r = vs (Mk.keyB n)) := by
 refine fn_enter Tryd.func49 rfl Tryd.ntmps49 lB fun a hF hS => ?_
 refine regS hF hS (aQ rfl <| sq_end) fun a w hF hS => ?_
 refine k0 ?_; intro K2 hK2
 refine regS hF hS (mQ rfl <| q0 (q_remi rfl rfl omQ) <| q0 (q_eqi rfl rfl) <| sq_end) fun a w hF hS => ?_
 refine wp_ifd hF rfl (fun hc1 => ?_) (fun hc1 => ?_)
 ·refine k0 ?_; intro K4 hK4
  refine regl ?_
  refine lQ hF hS (mQ rfl <| q0 (q_quoi rfl rfl omQ) <| pQ rfl rfl <| q0 (q_cv_ib ty3 ty5 rfl) <| sq_end) fun a w hF hS => ?_
  refine eQ hF hS rfl (ef_bsliceA ty39 ty5 rfl rfl oQ deQ rfl rfl) ?_
  rintro v1 _ _ a w ⟨rfl, rfl⟩ hF hS
  replace hS := nl0_1 hS
  refine lQ hF hS (q0 (q_b2s_row (xs := [ofb (97 + n / 3)]) ty39 ty9 ty5 0 rfl rfl) <| aQ rfl <| sq_end) fun a w hF hS => ?_
  refine wpList_nil (hK4 _ _ ?_)
  refine wp_ret ?_
  exact fn_ret (rs := [.tmp 2]) rfl hF hS (vs := [_]) ⟨rfl, trivial⟩ zQ zQ (by rw [Mk.keyB_1 hc1])
 ·refine wp_skip ?_
  refine hK2 _ _ ?_
  refine reglS fun K5 hK5 => ?_
  refine lQ hF hS (mQ rfl <| q0 (q_quoi rfl rfl omQ) <| pQ rfl rfl <| q0 (q_cv_ib ty3 ty5 rfl) <| mQ rfl <| q0 (q_remi rfl rfl omQ) <| pQ rfl rfl <| q0 (q_cv_ib ty3 ty5 rfl) <| sq_end) fun a w hF hS => ?_
  refine eQ hF hS rfl (ef_bsliceA ty39 ty5 rfl rfl oQ deQ rfl rfl) ?_
  rintro v3 _ _ a w ⟨rfl, rfl⟩ hF hS
  replace hS := nl0_1 hS
  refine lQ hF hS (q0 (q_b2s_row (xs := [ofb (97 + n / 3), ofb (97 + n % 3)]) ty39 ty9 ty5 0 rfl rfl) <| aQ rfl <| sq_end) fun a w hF hS => ?_
  refine wpList_nil (hK5 _ _ ?_)
  refine wp_ret ?_
  exact fn_ret (rs := [.tmp 2]) rfl hF hS (vs := [_]) ⟨rfl, trivial⟩ zQ zQ (by rw [Mk.keyB_2 hc1])
theorem leaves_ct (v : Value) (l : List Int) (w : World) (hb : Sl Go.Fw.encI (ph w) v l) : Ct Tryd.prog 10 [v] w (SlR encF (Mk.leavesL l)) := by
 refine fn_enter Tryd.func10 rfl Tryd.ntmps10 lB fun a hF hS => ?_
 have hbl := hb.1
 have hvl : Mk.vals.length = 5 := rfl
 refine regS hF hS (aQ rfl <| sq_end) fun a w hF hS => ?_
 refine k0 ?_; intro K2 hK2
 refine reg hF hS (aQ rfl <| sq_end) fun a w hF hS => ?_
 replace hS := hS.nilRow 75 2
 refine hK2 _ _ ?_
 refine regS hF hS (aQ rfl <| sq_end) fun a w hF hS => ?_
 refine k0 ?_; intro K4 hK4
 refine regS hF hS (aQ rfl <| sq_end) fun a w hF hS => ?_
 refine wp_block ?_
 obtain ⟨hs0, hhs0, hS⟩ := hS.oh
 refine wp_loopx (γ := Value × Int) ((Value.slice none 0 0), 0) (fun (u, i) => [(3, u), (4, vi (Mk.lvs l i.toNat).2), (5, vi i)]) [(0, _)] (fun (u, i) => (hs0.set 0 (.row u 75 2 (Mk.lvs l i.toNat).1.length ((Mk.lvs l i.toNat).1.flatMap kvC)))) (fun (u, i) => 0 ≤ i ∧ (i = 0 ∨ (2 * (i - 1) < l.length ∧ i ≤ 11))) (fun (u, i) => (11 - i).toNat) (hF.sub ⟨rfl, rfl, rfl, rfl, trivial⟩) (by subst hhs0; exact hS) (by exact ⟨Int.le_refl _, .inl rfl⟩) ?_
 rintro ⟨u, i⟩ a w hfact hF hS
 subst hhs0; (try dsimp only at hfact hF hS)
 obtain ⟨hi0, hi1⟩ := hfact
 replace hS := nl0_1 hS
 have hll := Mk.lvs_len l i.toNat
 have hla := Mk.lvs_at l i.toNat
 refine k0 ?_; intro K6 hK6
 refine reglS fun K7 hK7 => ?_
 refine lQ hF hS (mQ rfl <| q0 (q_muli rfl rfl omQ) <| mQ rfl <| q0 (q_len_sl ty22 hb rfl) <| q0 (q_lti rfl rfl) <| mQ rfl <| sq_end) fun a w hF hS => ?_
 refine wpl_and 5 11 2 hF hS rfl rfl rfl rfl rfl (fun hg => have hg := (by first | exact of_decide_eq_true hg | exact hg); sq_go 11 rfl rfl rfl (q_move rfl) <| sq_go 11 rfl rfl rfl (q_lti rfl rfl) <| sq_end) rfl rfl fun a w hF hS => ?_
 refine wpList_nil (hK7 _ _ ?_)
 refine wp_if hF rfl (fun hc1 => ?_) (fun hc1 => ?_)
 ·(try simp only [bS] at hc1)
  have h2a := Gu.atN_range (l := l) (i := 2 * i) (m := 3) omQ
  have h2b := Gu.atN_range (l := l) (i := 2 * i + 1) (m := 5) omQ
  refine wp_skip ?_
  refine hK6 _ _ ?_
  refine k0 ?_; intro K8 hK8
  refine wp_block ?_
  refine regS hF hS (mQ rfl <| pQ rfl rfl <| mQ rfl <| mQ rfl <| q0 (q_muli rfl rfl omQ) <| q0 (q_call fn48 rfl (fun w hS => at_ct _ _ _ _ omQ w (Sl.mono (hS.le zin0) hb)) hI) <| pQ rfl rfl <| aQ rfl <| sq_end) fun a w hF hS => ?_
  refine regl ?_
  refine lQ hF hS (mQ rfl <| mQ rfl <| q0 (q_call fn49 rfl (fun w hS => keyB_ct _ omQ w ) hI) <| sq_end) fun a w hF hS => ?_
  refine eQ hF hS rfl (ef_bsliceA ty47 ty9 rfl rfl oQ deQ rfl rfl) ?_
  rintro v2 _ _ a w ⟨rfl, rfl⟩ hF hS
  replace hS := nl0_2 hS
  refine lQ hF hS (mQ rfl <| mQ rfl <| q0 (q_muli rfl rfl omQ) <| pQ rfl rfl <| q0 (q_call fn48 rfl (fun w hS => at_ct _ _ _ _ omQ w (Sl.mono (hS.le zin0) hb)) hI) <| q0 (q_idx_row ty47 ty9 0 rfl rfl rfl omQ) <| q0 (q_ld_rowM (f := vs) (xs := Mk.vals) ty9 0 [] rfl rfl omQ rfl) <| q0 (q_buildS1 ty75 2 kQ rfl rfl (oc_cons rfl (oc_cons rfl oc_nil)) rfl rfl) <| sq_end) fun a w hF hS => ?_
  refine eQ hF hS rfl (ef_bsliceW ty24 ty75 rfl bQ deQ oQ deQ deQ) ?_
  rintro v4 _ _ a w ⟨rfl, rfl⟩ hF hS
  replace hS := nl0_3 hS
  refine eQ hF hS rfl (ef_append ty24 ty75 2 rfl rfl rfl (src_row ty24 (k := 0) rfl oQ) bQ rfl deQ) ?_
  rintro v6 _ _ a w ⟨rfl, rfl⟩ hF hS
  replace hS := nl0_3 hS
  refine lQ hF hS (aQ rfl <| sq_end) fun a w hF hS => ?_
  refine wpList_nil (hK8 _ _ ?_)
  refine reg hF hS (mQ rfl <| pQ rfl rfl <| aQ rfl <| sq_end) fun a w hF hS => ?_
  replace hS := hS.keep zQ (sN2)
  refine ⟨(v6, i + 1), ?_, ?_, hF.sub ⟨rfl, (by rw [Mk.lvs_next l hi0]; rfl), rfl, rfl, trivial⟩, ?_⟩
  ·(try dsimp only); omega
  ·exact ⟨by omega, .inr ⟨by omega, by omega⟩⟩
  ·(try dsimp only); rw [Mk.lvs_next l hi0, List.flatMap_append, List.length_append]; exact hS
 ·(try simp only [bS] at hc1)
  have hie := Mk.lvC_at (l := l) hi0 hi1 omQ
  rw [hie] at hS
  have hlb := Mk.leaves_bd l
  refine wp_exit ?_
  refine hK4 _ _ ?_
  refine regS hF hS (mQ rfl <| aQ rfl <| sq_end) fun a w hF hS => ?_
  refine wp_ret ?_
  obtain ⟨zr, hzr, hS⟩ := St.freezeF (xs := Mk.leavesL l) (hS.rowEq (m' := List.length (Mk.leavesL l)) (cs' := List.flatMap kvC (Mk.leavesL l)) (rfl) (rfl)) rfl (by have := hlb.1; omega) (fun x hx => by have := hlb.2 x hx; exact ⟨by omega, by omega⟩)
  exact fn_ret (rs := [.tmp 2]) rfl hF hS (vs := [_]) ⟨rfl, trivial⟩ (zs' := [zr]) (hs' := []) (List.singleton_sublist.2 (by simp)) zQ ⟨zr, hzr, rfl, rfl⟩
theorem keyL_ct (v : Value) (ls : List Mk.Lf) (n : Int) (hl : ls.length < 1000) (hx : ∀ x ∈ ls, x.1.length < 1048576) (hn : -9223372036854775808 ≤ n ∧ n ≤ 9223372036854775807) (w : World) (hb : Sl encF (ph w) v ls) : Ct Tryd.prog 20 [v, vi n] w (fun r _ _ => r = vs (Mk.keyL ls n)) := by
 refine fn_enter Tryd.func20 rfl Tryd.ntmps20 lB fun a hF hS => ?_
 have hbl := hb.1
 have har := Gu.arnd_range (n := n) (m := 3 * (ls.length : Int) + 5) omQ
 refine regS hF hS (aQ rfl <| sq_end) fun a w hF hS => ?_
 refine regS hF hS (mQ rfl <| mQ rfl <| q0 (q_len_sl ty24 hb rfl) <| q0 (q_muli rfl rfl omQ) <| pQ rfl rfl <| q0 (q_call fn17 rfl (fun w hS => arnd_ct _ _ omQ omQ w ) hI) <| aQ rfl <| sq_end) fun a w hF hS => ?_
 refine k0 ?_; intro K3 hK3
 refine regS hF hS (mQ rfl <| mQ rfl <| q0 (q_len_sl ty24 hb rfl) <| q0 (q_lti rfl rfl) <| sq_end) fun a w hF hS => ?_
 refine wp_ifd hF rfl (fun hc1 => ?_) (fun hc1 => ?_)
 ·refine k0 ?_; intro K5 hK5
  refine reg hF hS (mQ rfl <| mQ rfl <| q0 (q_idx_sl ty24 ty75 hb rfl rfl omQ) <| q0 (q_fld_F ty75 hb rfl omQ rfl (s' := 0) kQ) <| q0 (q_ld_FK ty9 hb zin0 rfl rfl omQ) <| aQ rfl <| sq_end) fun a w hF hS => ?_
  refine hK5 _ _ ?_
  refine wp_ret ?_
  exact fn_ret (rs := [.tmp 4]) rfl hF hS (vs := [_]) ⟨rfl, trivial⟩ zQ zQ (by unfold Mk.keyL; rw [if_pos hc1])
 ·refine wp_skip ?_
  refine hK3 _ _ ?_
  refine k0 ?_; intro K6 hK6
  refine regS hF hS (mQ rfl <| mQ rfl <| q0 (q_len_sl ty24 hb rfl) <| q0 (q_muli rfl rfl omQ) <| q0 (q_lti rfl rfl) <| sq_end) fun a w hF hS => ?_
  refine wp_ifd hF rfl (fun hc2 => ?_) (fun hc2 => ?_)
  ·have hxa := hx _ (Mk.getD_in (xs := ls) (k := (Gu.arnd n (3 * (ls.length : Int) + 5) - (ls.length : Int)).toNat) omQ)
   refine regS hF hS (mQ rfl <| mQ rfl <| mQ rfl <| q0 (q_len_sl ty24 hb rfl) <| dQ rfl rfl <| q0 (q_idx_sl ty24 ty75 hb rfl rfl omQ) <| q0 (q_fld_F ty75 hb rfl omQ rfl (s' := 0) kQ) <| q0 (q_ld_FK ty9 hb zin0 rfl rfl omQ) <| q0 (q_adds (q := [97]) rfl rfl (by rw [show ([97] : List UInt8).length = 1 from rfl]; omega)) <| aQ rfl <| sq_end) fun a w hF hS => ?_
   refine wp_ret ?_
   exact fn_ret (rs := [.tmp 4]) rfl hF hS (vs := [_]) ⟨rfl, trivial⟩ zQ zQ (by unfold Mk.keyL; rw [if_neg hc1, if_pos hc2])
  ·refine wp_skip ?_
   refine hK6 _ _ ?_
   refine k0 ?_; intro K9 hK9
   refine regS hF hS (mQ rfl <| mQ rfl <| q0 (q_len_sl ty24 hb rfl) <| q0 (q_muli rfl rfl omQ) <| q0 (q_eqi rfl rfl) <| sq_end) fun a w hF hS => ?_
   refine wp_ifd hF rfl (fun hc3 => ?_) (fun hc3 => ?_)
   ·refine k0 ?_; intro K11 hK11
    refine reg hF hS (aQ rfl <| sq_end) fun a w hF hS => ?_
    refine hK11 _ _ ?_
    refine wp_ret ?_
    exact fn_ret (rs := [.tmp 4]) rfl hF hS (vs := [_]) ⟨rfl, trivial⟩ zQ zQ (by unfold Mk.keyL; rw [if_neg hc1, if_neg hc2, if_pos hc3])
   ·refine wp_skip ?_
    refine hK9 _ _ ?_
    refine regS hF hS (mQ rfl <| q0 (q_call fn49 rfl (fun w hS => keyB_ct _ omQ w ) hI) <| aQ rfl <| sq_end) fun a w hF hS => ?_
    refine wp_ret ?_
    exact fn_ret (rs := [.tmp 4]) rfl hF hS (vs := [_]) ⟨rfl, trivial⟩ zQ zQ (by unfold Mk.keyL; rw [if_neg hc1, if_neg hc2, if_neg hc3])
end
section
attribute [local irreducible] Sha.sum Sha.mac Sha.ofD Wi.int Wi.ints Wi.bytes Sha.inp Mk.half Lib.compareBytes Mk.frm Mk.rootD Mk.keyB Gu.arnd Gu.atN
theorem bent_ct (q : Mk.Pf) (lv sv : Value) (how b : Int) (hh9 : -9223372036854775808 ≤ how ∧ how ≤ 9223372036854775807) (hb9 : -9223372036854775808 ≤ b ∧ b ≤ 9223372036854775807) (hsm : Mk.smP q 1000 1000) (w : World) (hb : Sl encF (ph w) lv q.lv) (hsd : Sl (encA 16) (ph w) sv q.sd)  : Ct Tryd.prog 28 [.agg [vi q.fst, vi q.sz, lv, sv].toArray, vi how, vi b] w (PfR (Mk.bent q how b)) := by
 refine fn_enter Tryd.func28 rfl Tryd.ntmps28 lB fun a hF hS => ?_
 obtain ⟨qf, qs, ql, qd⟩ := q
 dsimp only at hF hb hsd
 have hbl := hb.1
 have hdl : qd.length ≤ 140737488355328 := hsd.1
 have hs16 : ∀ d ∈ qd, d.length = 16 := sl_A hsd
 obtain ⟨hq1, hq2, hxs, _⟩ := id hsm
 dsimp only at hq1 hq2 hxs
 have hka := Gu.arnd_range (n := b) (m := max (ql.length : Int) 1) omQ
 have hja := Gu.arnd_range (n := b) (m := max (qd.length : Int) 1) omQ
 have hha := Gu.arnd_range (n := how) (m := 11) omQ
 have htd := Mk.tdiv8 hb9
 refine reglS fun K1 hK1 => ?_
 refine eQ hF hS rfl (ef_boxA rfl) ?_
 rintro _ _ _ a w ⟨b1, rfl, rfl, rfl⟩ hF hS
 refine eQ hF hS rfl (ef_allocA ty54) ?_
 rintro _ _ _ a w ⟨b2, rfl, rfl, rfl⟩ hF hS
 refine wpList_nil (hK1 _ _ ?_)
 refine k0 ?_; intro K2 hK2
 revert hS; revert hF; apply regJ (J := J5 (α0 := Value) (α1 := Value) (α2 := Value) (α3 := Value) (α4 := Nat) 170 _ _ _ _ _) #[false, false, false, false, false, false, false, false, false, false, false, false, false, false, false] 15 mixed rfl rfl
 ·intro w hF hS
  refine tQ 0 rfl hF (hS.keep sQ zQ) (q_fieldAddr ty54 rfl rfl (s' := 0) kQ) fun a hF => ?_
  refine tQ 1 rfl hF (hS.keep sQ (sN1)) (q_ld_blk1 ty3 0 rfl rfl rfl rfl) fun a hF => ?_
  refine tQ 2 rfl hF (hS.keep sQ zQ) (q_fieldAddr ty54 rfl rfl (s' := 0) kQ) fun a hF => ?_
  refine tQ 3 rfl hF (hS.keep sQ (sN1)) (q_ld_blk1 ty3 0 rfl rfl rfl rfl) fun a hF => ?_
  refine tQ 5 rfl hF (hS.keep sQ zQ) (q_fieldAddr ty54 rfl rfl (s' := 0) kQ) fun a hF => ?_
  refine tQ 6 rfl hF (hS.keep sQ (sN1)) (q_ld_blk1 ty24 0 rfl rfl rfl rfl) fun a hF => ?_
  refine tQ 9 rfl hF (hS.keep sQ zQ) (q_fieldAddr ty54 rfl rfl (s' := 0) kQ) fun a hF => ?_
  refine tQ 10 rfl hF (hS.keep sQ (sN1)) (q_ld_blk1 ty48 0 rfl rfl rfl rfl) fun a hF => ?_
  refine goW_fork [4, 8, 13] kQ rfl ⟨?_, ?_, ?_, trivial⟩
  ·refine stepW_ef _ rfl rfl hF hS rfl (ef_bslice0 ty24 ty75) ?_
   rintro v_1_4 _ _ a w ⟨rfl, rfl⟩ hF hS
   refine ⟨⟨.inr (hS.k1 (sN2)), .inr hS.k0, .inr (hS.k1 (sN2)), .inr hS.k0, .inr (hS.k1 (sN2)), .inr hS.k0, .inr (hS.k1 (sN2)), .inr hS.k0, trivial⟩, ?_⟩
   refine goW_fork [7, 8, 13] kQ rfl ⟨?_, ?_, ?_, trivial⟩
   ·refine stepW_ef _ rfl rfl hF hS rfl (ef_append ty24 ty75 0 rfl rfl rfl (src_slK ty24 hb zin0 deQ) bQ rfl deQ) ?_
    rintro v_1_7 _ _ a w ⟨rfl, rfl⟩ hF hS
    refine ⟨⟨.inr (hS.k1 (sN2)), .inr hS.k0, iQ, iQ, .inr (hS.k1 (sN2)), .inr hS.k0, .inr (hS.k1 (sN2)), .inr hS.k0, trivial⟩, ?_⟩
    refine goW_fork [8, 13] kQ rfl ⟨?_, ?_, trivial⟩
    ·refine stepW_ef _ rfl rfl hF hS rfl (ef_bslice0 ty48 ty29) ?_
     rintro v_1_8 _ _ a w ⟨rfl, rfl⟩ hF hS
     refine ⟨⟨.inr (hS.k1 (sN3)), .inr hS.k0, iQ, iQ, .inr (hS.k1 (sN3)), .inr hS.k0, .inr (hS.k1 (sN3)), .inr hS.k0, trivial⟩, ?_⟩
     refine goW_fork [11, 13] kQ rfl ⟨?_, ?_, trivial⟩
     ·refine stepW_ef _ rfl rfl hF hS rfl (ef_append ty48 ty29 0 rfl rfl rfl (src_slA ty48 hsd zin0 deQ) bQ rfl deQ) ?_
      rintro v_1_11 _ _ a w ⟨rfl, rfl⟩ hF hS
      refine ⟨⟨iQ, iQ, iQ, iQ, .inr (hS.k1 (sN3)), .inr hS.k0, .inr (hS.k1 (sN3)), .inr hS.k0, trivial⟩, ?_⟩
      refine tQ 12 rfl hF (hS.keep sQ (zQ.k.k)) (q_buildS1 ty54 4 kQ rfl rfl (oc_cons rfl (oc_cons rfl (oc_cons (row_one (hS.ow 1 rfl)) (oc_cons (row_one (hS.ow 0 rfl)) oc_nil)))) rfl rfl) fun a hF => ?_
      refine gQ 13 rfl rfl hF hS rfl (ef_allocA ty54) ?_
      rintro _ _ _ a w ⟨b_1_13, rfl, rfl, rfl⟩ hF hS
      refine ⟨⟨.inr (hS.k1 (zQ.k.k.n)), iQ, iQ, iQ, iQ, .inr (hS.k1 (sN4)), .inr hS.k0, .inr (hS.k1 (sN4)), .inr hS.k0, trivial⟩, ?_⟩
      refine gQ 14 rfl rfl hF hS rfl (ef_storeW ty54 0 rfl rfl rfl rfl bQ (oc_cons rfl (oc_cons rfl (oc_cons (row_one (hS.ow 2 rfl)) (oc_cons (row_one (hS.ow 1 rfl)) oc_nil)))) bQ) ?_
      rintro _ _ _ a w ⟨rfl, rfl, rfl⟩ hF hS
      refine ⟨⟨iQ, iQ, iQ, iQ, iQ, iQ, iQ, iQ, iQ, trivial⟩, ?_⟩
      exact goW_done kQ (j5_mk v_1_4 v_1_7 v_1_8 v_1_11 b_1_13 (trivial) (hF.sub (L' := [(1, _), (2, _), (6, _), (7, _)]) ⟨rfl, rfl, rfl, rfl, trivial⟩) hS)
     ·refine stepW_ef _ rfl rfl hF hS rfl (ef_allocA ty54) ?_
      rintro _ _ _ a w ⟨b_1_13, rfl, rfl, rfl⟩ hF hS
      refine ⟨⟨.inr (hS.k1 (sN4)), .inr hS.k0, iQ, iQ, .inr (hS.k1 (sN4)), .inr hS.k0, .inr (hS.k1 (sN4)), .inr hS.k0, trivial⟩, ?_⟩
      refine gQ 11 rfl rfl hF hS rfl (ef_append ty48 ty29 1 rfl rfl rfl (src_slA ty48 hsd zin0 deQ) bQ rfl deQ) ?_
      rintro v_1_11 _ _ a w ⟨rfl, rfl⟩ hF hS
      refine ⟨⟨iQ, iQ, iQ, iQ, .inr (hS.k1 (sN4)), .inr hS.k0, .inr (hS.k1 (sN4)), .inr hS.k0, trivial⟩, ?_⟩
      refine tQ 12 rfl hF (hS.keep sQ (zQ.k.k.n)) (q_buildS1 ty54 4 kQ rfl rfl (oc_cons rfl (oc_cons rfl (oc_cons (row_one (hS.ow 2 rfl)) (oc_cons (row_one (hS.ow 1 rfl)) oc_nil)))) rfl rfl) fun a hF => ?_
      refine gQ 14 rfl rfl hF hS rfl (ef_storeW ty54 0 rfl rfl rfl rfl bQ (oc_cons rfl (oc_cons rfl (oc_cons (row_one (hS.ow 2 rfl)) (oc_cons (row_one (hS.ow 1 rfl)) oc_nil)))) bQ) ?_
      rintro _ _ _ a w ⟨rfl, rfl, rfl⟩ hF hS
      refine ⟨⟨iQ, iQ, iQ, iQ, iQ, iQ, iQ, iQ, iQ, trivial⟩, ?_⟩
      exact goW_done kQ (j5_mk v_1_4 v_1_7 v_1_8 v_1_11 b_1_13 (trivial) (hF.sub (L' := [(1, _), (2, _), (6, _), (7, _)]) ⟨rfl, rfl, rfl, rfl, trivial⟩) hS)
    ·refine stepW_ef _ rfl rfl hF hS rfl (ef_allocA ty54) ?_
     rintro _ _ _ a w ⟨b_1_13, rfl, rfl, rfl⟩ hF hS
     refine ⟨⟨.inr (hS.k1 (sN3)), .inr hS.k0, iQ, iQ, .inr (hS.k1 (sN3)), .inr hS.k0, .inr (hS.k1 (sN3)), .inr hS.k0, trivial⟩, ?_⟩
     refine gQ 8 rfl rfl hF hS rfl (ef_bslice0 ty48 ty29) ?_
     rintro v_1_8 _ _ a w ⟨rfl, rfl⟩ hF hS
     refine ⟨⟨.inr (hS.k1 (sN4)), .inr hS.k0, iQ, iQ, .inr (hS.k1 (sN4)), .inr hS.k0, .inr (hS.k1 (sN4)), .inr hS.k0, trivial⟩, ?_⟩
     refine gQ 11 rfl rfl hF hS rfl (ef_append ty48 ty29 0 rfl rfl rfl (src_slA ty48 hsd zin0 deQ) bQ rfl deQ) ?_
     rintro v_1_11 _ _ a w ⟨rfl, rfl⟩ hF hS
     refine ⟨⟨iQ, iQ, iQ, iQ, .inr (hS.k1 (sN4)), .inr hS.k0, .inr (hS.k1 (sN4)), .inr hS.k0, trivial⟩, ?_⟩
     refine tQ 12 rfl hF (hS.keep sQ (zQ.k.n.k)) (q_buildS1 ty54 4 kQ rfl rfl (oc_cons rfl (oc_cons rfl (oc_cons (row_one (hS.ow 2 rfl)) (oc_cons (row_one (hS.ow 0 rfl)) oc_nil)))) rfl rfl) fun a hF => ?_
     refine gQ 14 rfl rfl hF hS rfl (ef_storeW ty54 1 rfl rfl rfl rfl bQ (oc_cons rfl (oc_cons rfl (oc_cons (row_one (hS.ow 2 rfl)) (oc_cons (row_one (hS.ow 0 rfl)) oc_nil)))) bQ) ?_
     rintro _ _ _ a w ⟨rfl, rfl, rfl⟩ hF hS
     refine ⟨⟨iQ, iQ, iQ, iQ, iQ, iQ, iQ, iQ, iQ, trivial⟩, ?_⟩
     exact goW_done kQ (j5_mk v_1_4 v_1_7 v_1_8 v_1_11 b_1_13 (trivial) (hF.sub (L' := [(1, _), (2, _), (6, _), (7, _)]) ⟨rfl, rfl, rfl, rfl, trivial⟩) (hS.perm (.swap _ _ _)))
   ·refine stepW_ef _ rfl rfl hF hS rfl (ef_bslice0 ty48 ty29) ?_
    rintro v_1_8 _ _ a w ⟨rfl, rfl⟩ hF hS
    refine ⟨⟨.inr (hS.k1 (sN3)), .inr hS.k0, .inr (hS.k1 (sN3)), .inr hS.k0, .inr (hS.k1 (sN3)), .inr hS.k0, .inr (hS.k1 (sN3)), .inr hS.k0, trivial⟩, ?_⟩
    refine goW_fork [7, 13] kQ rfl ⟨?_, ?_, trivial⟩
    ·refine stepW_ef _ rfl rfl hF hS rfl (ef_append ty24 ty75 1 rfl rfl rfl (src_slK ty24 hb zin0 deQ) bQ rfl deQ) ?_
     rintro v_1_7 _ _ a w ⟨rfl, rfl⟩ hF hS
     refine ⟨⟨.inr (hS.k1 (sN3)), .inr hS.k0, iQ, iQ, .inr (hS.k1 (sN3)), .inr hS.k0, .inr (hS.k1 (sN3)), .inr hS.k0, trivial⟩, ?_⟩
     refine goW_fork [11, 13] kQ rfl ⟨?_, ?_, trivial⟩
     ·refine stepW_ef _ rfl rfl hF hS rfl (ef_append ty48 ty29 0 rfl rfl rfl (src_slA ty48 hsd zin0 deQ) bQ rfl deQ) ?_
      rintro v_1_11 _ _ a w ⟨rfl, rfl⟩ hF hS
      refine ⟨⟨iQ, iQ, iQ, iQ, .inr (hS.k1 (sN3)), .inr hS.k0, .inr (hS.k1 (sN3)), .inr hS.k0, trivial⟩, ?_⟩
      refine tQ 12 rfl hF (hS.keep sQ (zQ.k.k)) (q_buildS1 ty54 4 kQ rfl rfl (oc_cons rfl (oc_cons rfl (oc_cons (row_one (hS.ow 1 rfl)) (oc_cons (row_one (hS.ow 0 rfl)) oc_nil)))) rfl rfl) fun a hF => ?_
      refine gQ 13 rfl rfl hF hS rfl (ef_allocA ty54) ?_
      rintro _ _ _ a w ⟨b_1_13, rfl, rfl, rfl⟩ hF hS
      refine ⟨⟨.inr (hS.k1 (zQ.k.k.n)), iQ, iQ, iQ, iQ, .inr (hS.k1 (sN4)), .inr hS.k0, .inr (hS.k1 (sN4)), .inr hS.k0, trivial⟩, ?_⟩
      refine gQ 14 rfl rfl hF hS rfl (ef_storeW ty54 0 rfl rfl rfl rfl bQ (oc_cons rfl (oc_cons rfl (oc_cons (row_one (hS.ow 2 rfl)) (oc_cons (row_one (hS.ow 1 rfl)) oc_nil)))) bQ) ?_
      rintro _ _ _ a w ⟨rfl, rfl, rfl⟩ hF hS
      refine ⟨⟨iQ, iQ, iQ, iQ, iQ, iQ, iQ, iQ, iQ, trivial⟩, ?_⟩
      exact goW_done kQ (j5_mk v_1_4 v_1_7 v_1_8 v_1_11 b_1_13 (trivial) (hF.sub (L' := [(1, _), (2, _), (6, _), (7, _)]) ⟨rfl, rfl, rfl, rfl, trivial⟩) hS)
     ·refine stepW_ef _ rfl rfl hF hS rfl (ef_allocA ty54) ?_
      rintro _ _ _ a w ⟨b_1_13, rfl, rfl, rfl⟩ hF hS
      refine ⟨⟨.inr (hS.k1 (sN4)), .inr hS.k0, iQ, iQ, .inr (hS.k1 (sN4)), .inr hS.k0, .inr (hS.k1 (sN4)), .inr hS.k0, trivial⟩, ?_⟩
      refine gQ 11 rfl rfl hF hS rfl (ef_append ty48 ty29 1 rfl rfl rfl (src_slA ty48 hsd zin0 deQ) bQ rfl deQ) ?_
      rintro v_1_11 _ _ a w ⟨rfl, rfl⟩ hF hS
      refine ⟨⟨iQ, iQ, iQ, iQ, .inr (hS.k1 (sN4)), .inr hS.k0, .inr (hS.k1 (sN4)), .inr hS.k0, trivial⟩, ?_⟩
      refine tQ 12 rfl hF (hS.keep sQ (zQ.k.k.n)) (q_buildS1 ty54 4 kQ rfl rfl (oc_cons rfl (oc_cons rfl (oc_cons (row_one (hS.ow 2 rfl)) (oc_cons (row_one (hS.ow 1 rfl)) oc_nil)))) rfl rfl) fun a hF => ?_
      refine gQ 14 rfl rfl hF hS rfl (ef_storeW ty54 0 rfl rfl rfl rfl bQ (oc_cons rfl (oc_cons rfl (oc_cons (row_one (hS.ow 2 rfl)) (oc_cons (row_one (hS.ow 1 rfl)) oc_nil)))) bQ) ?_
      rintro _ _ _ a w ⟨rfl, rfl, rfl⟩ hF hS
      refine ⟨⟨iQ, iQ, iQ, iQ, iQ, iQ, iQ, iQ, iQ, trivial⟩, ?_⟩
      exact goW_done kQ (j5_mk v_1_4 v_1_7 v_1_8 v_1_11 b_1_13 (trivial) (hF.sub (L' := [(1, _), (2, _), (6, _), (7, _)]) ⟨rfl, rfl, rfl, rfl, trivial⟩) hS)
    ·refine stepW_ef _ rfl rfl hF hS rfl (ef_allocA ty54) ?_
     rintro _ _ _ a w ⟨b_1_13, rfl, rfl, rfl⟩ hF hS
     refine ⟨⟨.inr (hS.k1 (sN4)), .inr hS.k0, .inr (hS.k1 (sN4)), .inr hS.k0, .inr (hS.k1 (sN4)), .inr hS.k0, .inr (hS.k1 (sN4)), .inr hS.k0, trivial⟩, ?_⟩
     refine gQ 7 rfl rfl hF hS rfl (ef_append ty24 ty75 2 rfl rfl rfl (src_slK ty24 hb zin0 deQ) bQ rfl deQ) ?_
     rintro v_1_7 _ _ a w ⟨rfl, rfl⟩ hF hS
     refine ⟨⟨.inr (hS.k1 (sN4)), .inr hS.k0, iQ, iQ, .inr (hS.k1 (sN4)), .inr hS.k0, .inr (hS.k1 (sN4)), .inr hS.k0, trivial⟩, ?_⟩
     refine gQ 11 rfl rfl hF hS rfl (ef_append ty48 ty29 1 rfl rfl rfl (src_slA ty48 hsd zin0 deQ) bQ rfl deQ) ?_
     rintro v_1_11 _ _ a w ⟨rfl, rfl⟩ hF hS
     refine ⟨⟨iQ, iQ, iQ, iQ, .inr (hS.k1 (sN4)), .inr hS.k0, .inr (hS.k1 (sN4)), .inr hS.k0, trivial⟩, ?_⟩
     refine tQ 12 rfl hF (hS.keep sQ (zQ.k.k.n)) (q_buildS1 ty54 4 kQ rfl rfl (oc_cons rfl (oc_cons rfl (oc_cons (row_one (hS.ow 2 rfl)) (oc_cons (row_one (hS.ow 1 rfl)) oc_nil)))) rfl rfl) fun a hF => ?_
     refine gQ 14 rfl rfl hF hS rfl (ef_storeW ty54 0 rfl rfl rfl rfl bQ (oc_cons rfl (oc_cons rfl (oc_cons (row_one (hS.ow 2 rfl)) (oc_cons (row_one (hS.ow 1 rfl)) oc_nil)))) bQ) ?_
     rintro _ _ _ a w ⟨rfl, rfl, rfl⟩ hF hS
     refine ⟨⟨iQ, iQ, iQ, iQ, iQ, iQ, iQ, iQ, iQ, trivial⟩, ?_⟩
     exact goW_done kQ (j5_mk v_1_4 v_1_7 v_1_8 v_1_11 b_1_13 (trivial) (hF.sub (L' := [(1, _), (2, _), (6, _), (7, _)]) ⟨rfl, rfl, rfl, rfl, trivial⟩) hS)
   ·refine stepW_ef _ rfl rfl hF hS rfl (ef_allocA ty54) ?_
    rintro _ _ _ a w ⟨b_1_13, rfl, rfl, rfl⟩ hF hS
    refine ⟨⟨.inr (hS.k1 (sN3)), .inr hS.k0, .inr (hS.k1 (sN3)), .inr hS.k0, .inr (hS.k1 (sN3)), .inr hS.k0, .inr (hS.k1 (sN3)), .inr hS.k0, trivial⟩, ?_⟩
    refine goW_fork [7, 8] kQ rfl ⟨?_, ?_, trivial⟩
    ·refine stepW_ef _ rfl rfl hF hS rfl (ef_append ty24 ty75 1 rfl rfl rfl (src_slK ty24 hb zin0 deQ) bQ rfl deQ) ?_
     rintro v_1_7 _ _ a w ⟨rfl, rfl⟩ hF hS
     refine ⟨⟨.inr (hS.k1 (sN3)), .inr hS.k0, iQ, iQ, .inr (hS.k1 (sN3)), .inr hS.k0, .inr (hS.k1 (sN3)), .inr hS.k0, trivial⟩, ?_⟩
     refine gQ 8 rfl rfl hF hS rfl (ef_bslice0 ty48 ty29) ?_
     rintro v_1_8 _ _ a w ⟨rfl, rfl⟩ hF hS
     refine ⟨⟨.inr (hS.k1 (sN4)), .inr hS.k0, iQ, iQ, .inr (hS.k1 (sN4)), .inr hS.k0, .inr (hS.k1 (sN4)), .inr hS.k0, trivial⟩, ?_⟩
     refine gQ 11 rfl rfl hF hS rfl (ef_append ty48 ty29 0 rfl rfl rfl (src_slA ty48 hsd zin0 deQ) bQ rfl deQ) ?_
     rintro v_1_11 _ _ a w ⟨rfl, rfl⟩ hF hS
     refine ⟨⟨iQ, iQ, iQ, iQ, .inr (hS.k1 (sN4)), .inr hS.k0, .inr (hS.k1 (sN4)), .inr hS.k0, trivial⟩, ?_⟩
     refine tQ 12 rfl hF (hS.keep sQ (zQ.k.n.k)) (q_buildS1 ty54 4 kQ rfl rfl (oc_cons rfl (oc_cons rfl (oc_cons (row_one (hS.ow 2 rfl)) (oc_cons (row_one (hS.ow 0 rfl)) oc_nil)))) rfl rfl) fun a hF => ?_
     refine gQ 14 rfl rfl hF hS rfl (ef_storeW ty54 1 rfl rfl rfl rfl bQ (oc_cons rfl (oc_cons rfl (oc_cons (row_one (hS.ow 2 rfl)) (oc_cons (row_one (hS.ow 0 rfl)) oc_nil)))) bQ) ?_
     rintro _ _ _ a w ⟨rfl, rfl, rfl⟩ hF hS
     refine ⟨⟨iQ, iQ, iQ, iQ, iQ, iQ, iQ, iQ, iQ, trivial⟩, ?_⟩
     exact goW_done kQ (j5_mk v_1_4 v_1_7 v_1_8 v_1_11 b_1_13 (trivial) (hF.sub (L' := [(1, _), (2, _), (6, _), (7, _)]) ⟨rfl, rfl, rfl, rfl, trivial⟩) (hS.perm (.swap _ _ _)))
    ·refine stepW_ef _ rfl rfl hF hS rfl (ef_bslice0 ty48 ty29) ?_
     rintro v_1_8 _ _ a w ⟨rfl, rfl⟩ hF hS
     refine ⟨⟨.inr (hS.k1 (sN4)), .inr hS.k0, .inr (hS.k1 (sN4)), .inr hS.k0, .inr (hS.k1 (sN4)), .inr hS.k0, .inr (hS.k1 (sN4)), .inr hS.k0, trivial⟩, ?_⟩
     refine gQ 7 rfl rfl hF hS rfl (ef_append ty24 ty75 2 rfl rfl rfl (src_slK ty24 hb zin0 deQ) bQ rfl deQ) ?_
     rintro v_1_7 _ _ a w ⟨rfl, rfl⟩ hF hS
     refine ⟨⟨.inr (hS.k1 (sN4)), .inr hS.k0, iQ, iQ, .inr (hS.k1 (sN4)), .inr hS.k0, .inr (hS.k1 (sN4)), .inr hS.k0, trivial⟩, ?_⟩
     refine gQ 11 rfl rfl hF hS rfl (ef_append ty48 ty29 0 rfl rfl rfl (src_slA ty48 hsd zin0 deQ) bQ rfl deQ) ?_
     rintro v_1_11 _ _ a w ⟨rfl, rfl⟩ hF hS
     refine ⟨⟨iQ, iQ, iQ, iQ, .inr (hS.k1 (sN4)), .inr hS.k0, .inr (hS.k1 (sN4)), .inr hS.k0, trivial⟩, ?_⟩
     refine tQ 12 rfl hF (hS.keep sQ (zQ.k.n.k)) (q_buildS1 ty54 4 kQ rfl rfl (oc_cons rfl (oc_cons rfl (oc_cons (row_one (hS.ow 2 rfl)) (oc_cons (row_one (hS.ow 0 rfl)) oc_nil)))) rfl rfl) fun a hF => ?_
     refine gQ 14 rfl rfl hF hS rfl (ef_storeW ty54 1 rfl rfl rfl rfl bQ (oc_cons rfl (oc_cons rfl (oc_cons (row_one (hS.ow 2 rfl)) (oc_cons (row_one (hS.ow 0 rfl)) oc_nil)))) bQ) ?_
     rintro _ _ _ a w ⟨rfl, rfl, rfl⟩ hF hS
     refine ⟨⟨iQ, iQ, iQ, iQ, iQ, iQ, iQ, iQ, iQ, trivial⟩, ?_⟩
     exact goW_done kQ (j5_mk v_1_4 v_1_7 v_1_8 v_1_11 b_1_13 (trivial) (hF.sub (L' := [(1, _), (2, _), (6, _), (7, _)]) ⟨rfl, rfl, rfl, rfl, trivial⟩) (hS.perm (.swap _ _ _)))
  ·refine stepW_ef _ rfl rfl hF hS rfl (ef_bslice0 ty48 ty29) ?_
   rintro v_1_8 _ _ a w ⟨rfl, rfl⟩ hF hS
   refine ⟨⟨.inr (hS.k1 (sN2)), .inr hS.k0, .inr (hS.k1 (sN2)), .inr hS.k0, .inr (hS.k1 (sN2)), .inr hS.k0, .inr (hS.k1 (sN2)), .inr hS.k0, trivial⟩, ?_⟩
   refine goW_fork [4, 13] kQ rfl ⟨?_, ?_, trivial⟩
   ·refine stepW_ef _ rfl rfl hF hS rfl (ef_bslice0 ty24 ty75) ?_
    rintro v_1_4 _ _ a w ⟨rfl, rfl⟩ hF hS
    refine ⟨⟨.inr (hS.k1 (sN3)), .inr hS.k0, .inr (hS.k1 (sN3)), .inr hS.k0, .inr (hS.k1 (sN3)), .inr hS.k0, .inr (hS.k1 (sN3)), .inr hS.k0, trivial⟩, ?_⟩
    refine goW_fork [7, 13] kQ rfl ⟨?_, ?_, trivial⟩
    ·refine stepW_ef _ rfl rfl hF hS rfl (ef_append ty24 ty75 0 rfl rfl rfl (src_slK ty24 hb zin0 deQ) bQ rfl deQ) ?_
     rintro v_1_7 _ _ a w ⟨rfl, rfl⟩ hF hS
     refine ⟨⟨.inr (hS.k1 (sN3)), .inr hS.k0, iQ, iQ, .inr (hS.k1 (sN3)), .inr hS.k0, .inr (hS.k1 (sN3)), .inr hS.k0, trivial⟩, ?_⟩
     refine goW_fork [11, 13] kQ rfl ⟨?_, ?_, trivial⟩
     ·refine stepW_ef _ rfl rfl hF hS rfl (ef_append ty48 ty29 1 rfl rfl rfl (src_slA ty48 hsd zin0 deQ) bQ rfl deQ) ?_
      rintro v_1_11 _ _ a w ⟨rfl, rfl⟩ hF hS
      refine ⟨⟨iQ, iQ, iQ, iQ, .inr (hS.k1 (sN3)), .inr hS.k0, .inr (hS.k1 (sN3)), .inr hS.k0, trivial⟩, ?_⟩
      refine tQ 12 rfl hF (hS.keep sQ (zQ.k.k)) (q_buildS1 ty54 4 kQ rfl rfl (oc_cons rfl (oc_cons rfl (oc_cons (row_one (hS.ow 0 rfl)) (oc_cons (row_one (hS.ow 1 rfl)) oc_nil)))) rfl rfl) fun a hF => ?_
      refine gQ 13 rfl rfl hF hS rfl (ef_allocA ty54) ?_
      rintro _ _ _ a w ⟨b_1_13, rfl, rfl, rfl⟩ hF hS
      refine ⟨⟨.inr (hS.k1 (zQ.k.k.n)), iQ, iQ, iQ, iQ, .inr (hS.k1 (sN4)), .inr hS.k0, .inr (hS.k1 (sN4)), .inr hS.k0, trivial⟩, ?_⟩
      refine gQ 14 rfl rfl hF hS rfl (ef_storeW ty54 0 rfl rfl rfl rfl bQ (oc_cons rfl (oc_cons rfl (oc_cons (row_one (hS.ow 1 rfl)) (oc_cons (row_one (hS.ow 2 rfl)) oc_nil)))) bQ) ?_
      rintro _ _ _ a w ⟨rfl, rfl, rfl⟩ hF hS
      refine ⟨⟨iQ, iQ, iQ, iQ, iQ, iQ, iQ, iQ, iQ, trivial⟩, ?_⟩
      exact goW_done kQ (j5_mk v_1_4 v_1_7 v_1_8 v_1_11 b_1_13 (trivial) (hF.sub (L' := [(1, _), (2, _), (6, _), (7, _)]) ⟨rfl, rfl, rfl, rfl, trivial⟩) (hS.perm (.cons _ (.swap _ _ _))))
     ·refine stepW_ef _ rfl rfl hF hS rfl (ef_allocA ty54) ?_
      rintro _ _ _ a w ⟨b_1_13, rfl, rfl, rfl⟩ hF hS
      refine ⟨⟨.inr (hS.k1 (sN4)), .inr hS.k0, iQ, iQ, .inr (hS.k1 (sN4)), .inr hS.k0, .inr (hS.k1 (sN4)), .inr hS.k0, trivial⟩, ?_⟩
      refine gQ 11 rfl rfl hF hS rfl (ef_append ty48 ty29 2 rfl rfl rfl (src_slA ty48 hsd zin0 deQ) bQ rfl deQ) ?_
      rintro v_1_11 _ _ a w ⟨rfl, rfl⟩ hF hS
      refine ⟨⟨iQ, iQ, iQ, iQ, .inr (hS.k1 (sN4)), .inr hS.k0, .inr (hS.k1 (sN4)), .inr hS.k0, trivial⟩, ?_⟩
      refine tQ 12 rfl hF (hS.keep sQ (zQ.k.k.n)) (q_buildS1 ty54 4 kQ rfl rfl (oc_cons rfl (oc_cons rfl (oc_cons (row_one (hS.ow 1 rfl)) (oc_cons (row_one (hS.ow 2 rfl)) oc_nil)))) rfl rfl) fun a hF => ?_
      refine gQ 14 rfl rfl hF hS rfl (ef_storeW ty54 0 rfl rfl rfl rfl bQ (oc_cons rfl (oc_cons rfl (oc_cons (row_one (hS.ow 1 rfl)) (oc_cons (row_one (hS.ow 2 rfl)) oc_nil)))) bQ) ?_
      rintro _ _ _ a w ⟨rfl, rfl, rfl⟩ hF hS
      refine ⟨⟨iQ, iQ, iQ, iQ, iQ, iQ, iQ, iQ, iQ, trivial⟩, ?_⟩
      exact goW_done kQ (j5_mk v_1_4 v_1_7 v_1_8 v_1_11 b_1_13 (trivial) (hF.sub (L' := [(1, _), (2, _), (6, _), (7, _)]) ⟨rfl, rfl, rfl, rfl, trivial⟩) (hS.perm (.cons _ (.swap _ _ _))))
    ·refine stepW_ef _ rfl rfl hF hS rfl (ef_allocA ty54) ?_
     rintro _ _ _ a w ⟨b_1_13, rfl, rfl, rfl⟩ hF hS
     refine ⟨⟨.inr (hS.k1 (sN4)), .inr hS.k0, .inr (hS.k1 (sN4)), .inr hS.k0, .inr (hS.k1 (sN4)), .inr hS.k0, .inr (hS.k1 (sN4)), .inr hS.k0, trivial⟩, ?_⟩
     refine gQ 7 rfl rfl hF hS rfl (ef_append ty24 ty75 1 rfl rfl rfl (src_slK ty24 hb zin0 deQ) bQ rfl deQ) ?_
     rintro v_1_7 _ _ a w ⟨rfl, rfl⟩ hF hS
     refine ⟨⟨.inr (hS.k1 (sN4)), .inr hS.k0, iQ, iQ, .inr (hS.k1 (sN4)), .inr hS.k0, .inr (hS.k1 (sN4)), .inr hS.k0, trivial⟩, ?_⟩
     refine gQ 11 rfl rfl hF hS rfl (ef_append ty48 ty29 2 rfl rfl rfl (src_slA ty48 hsd zin0 deQ) bQ rfl deQ) ?_
     rintro v_1_11 _ _ a w ⟨rfl, rfl⟩ hF hS
     refine ⟨⟨iQ, iQ, iQ, iQ, .inr (hS.k1 (sN4)), .inr hS.k0, .inr (hS.k1 (sN4)), .inr hS.k0, trivial⟩, ?_⟩
     refine tQ 12 rfl hF (hS.keep sQ (zQ.k.k.n)) (q_buildS1 ty54 4 kQ rfl rfl (oc_cons rfl (oc_cons rfl (oc_cons (row_one (hS.ow 1 rfl)) (oc_cons (row_one (hS.ow 2 rfl)) oc_nil)))) rfl rfl) fun a hF => ?_
     refine gQ 14 rfl rfl hF hS rfl (ef_storeW ty54 0 rfl rfl rfl rfl bQ (oc_cons rfl (oc_cons rfl (oc_cons (row_one (hS.ow 1 rfl)) (oc_cons (row_one (hS.ow 2 rfl)) oc_nil)))) bQ) ?_
     rintro _ _ _ a w ⟨rfl, rfl, rfl⟩ hF hS
     refine ⟨⟨iQ, iQ, iQ, iQ, iQ, iQ, iQ, iQ, iQ, trivial⟩, ?_⟩
     exact goW_done kQ (j5_mk v_1_4 v_1_7 v_1_8 v_1_11 b_1_13 (trivial) (hF.sub (L' := [(1, _), (2, _), (6, _), (7, _)]) ⟨rfl, rfl, rfl, rfl, trivial⟩) (hS.perm (.cons _ (.swap _ _ _))))
   ·refine stepW_ef _ rfl rfl hF hS rfl (ef_allocA ty54) ?_
    rintro _ _ _ a w ⟨b_1_13, rfl, rfl, rfl⟩ hF hS
    refine ⟨⟨.inr (hS.k1 (sN3)), .inr hS.k0, .inr (hS.k1 (sN3)), .inr hS.k0, .inr (hS.k1 (sN3)), .inr hS.k0, .inr (hS.k1 (sN3)), .inr hS.k0, trivial⟩, ?_⟩
    refine gQ 4 rfl rfl hF hS rfl (ef_bslice0 ty24 ty75) ?_
    rintro v_1_4 _ _ a w ⟨rfl, rfl⟩ hF hS
    refine ⟨⟨.inr (hS.k1 (sN4)), .inr hS.k0, .inr (hS.k1 (sN4)), .inr hS.k0, .inr (hS.k1 (sN4)), .inr hS.k0, .inr (hS.k1 (sN4)), .inr hS.k0, trivial⟩, ?_⟩
    refine gQ 7 rfl rfl hF hS rfl (ef_append ty24 ty75 0 rfl rfl rfl (src_slK ty24 hb zin0 deQ) bQ rfl deQ) ?_
    rintro v_1_7 _ _ a w ⟨rfl, rfl⟩ hF hS
    refine ⟨⟨.inr (hS.k1 (sN4)), .inr hS.k0, iQ, iQ, .inr (hS.k1 (sN4)), .inr hS.k0, .inr (hS.k1 (sN4)), .inr hS.k0, trivial⟩, ?_⟩
    refine gQ 11 rfl rfl hF hS rfl (ef_append ty48 ty29 2 rfl rfl rfl (src_slA ty48 hsd zin0 deQ) bQ rfl deQ) ?_
    rintro v_1_11 _ _ a w ⟨rfl, rfl⟩ hF hS
    refine ⟨⟨iQ, iQ, iQ, iQ, .inr (hS.k1 (sN4)), .inr hS.k0, .inr (hS.k1 (sN4)), .inr hS.k0, trivial⟩, ?_⟩
    refine tQ 12 rfl hF (hS.keep sQ (zQ.k.n.k)) (q_buildS1 ty54 4 kQ rfl rfl (oc_cons rfl (oc_cons rfl (oc_cons (row_one (hS.ow 0 rfl)) (oc_cons (row_one (hS.ow 2 rfl)) oc_nil)))) rfl rfl) fun a hF => ?_
    refine gQ 14 rfl rfl hF hS rfl (ef_storeW ty54 1 rfl rfl rfl rfl bQ (oc_cons rfl (oc_cons rfl (oc_cons (row_one (hS.ow 0 rfl)) (oc_cons (row_one (hS.ow 2 rfl)) oc_nil)))) bQ) ?_
    rintro _ _ _ a w ⟨rfl, rfl, rfl⟩ hF hS
    refine ⟨⟨iQ, iQ, iQ, iQ, iQ, iQ, iQ, iQ, iQ, trivial⟩, ?_⟩
    exact goW_done kQ (j5_mk v_1_4 v_1_7 v_1_8 v_1_11 b_1_13 (trivial) (hF.sub (L' := [(1, _), (2, _), (6, _), (7, _)]) ⟨rfl, rfl, rfl, rfl, trivial⟩) ((hS.perm (.swap _ _ _)).perm (.cons _ (.swap _ _ _))))
  ·refine stepW_ef _ rfl rfl hF hS rfl (ef_allocA ty54) ?_
   rintro _ _ _ a w ⟨b_1_13, rfl, rfl, rfl⟩ hF hS
   refine ⟨⟨.inr (hS.k1 (sN2)), .inr hS.k0, .inr (hS.k1 (sN2)), .inr hS.k0, .inr (hS.k1 (sN2)), .inr hS.k0, .inr (hS.k1 (sN2)), .inr hS.k0, trivial⟩, ?_⟩
   refine goW_fork [4, 8] kQ rfl ⟨?_, ?_, trivial⟩
   ·refine stepW_ef _ rfl rfl hF hS rfl (ef_bslice0 ty24 ty75) ?_
    rintro v_1_4 _ _ a w ⟨rfl, rfl⟩ hF hS
    refine ⟨⟨.inr (hS.k1 (sN3)), .inr hS.k0, .inr (hS.k1 (sN3)), .inr hS.k0, .inr (hS.k1 (sN3)), .inr hS.k0, .inr (hS.k1 (sN3)), .inr hS.k0, trivial⟩, ?_⟩
    refine goW_fork [7, 8] kQ rfl ⟨?_, ?_, trivial⟩
    ·refine stepW_ef _ rfl rfl hF hS rfl (ef_append ty24 ty75 0 rfl rfl rfl (src_slK ty24 hb zin0 deQ) bQ rfl deQ) ?_
     rintro v_1_7 _ _ a w ⟨rfl, rfl⟩ hF hS
     refine ⟨⟨.inr (hS.k1 (sN3)), .inr hS.k0, iQ, iQ, .inr (hS.k1 (sN3)), .inr hS.k0, .inr (hS.k1 (sN3)), .inr hS.k0, trivial⟩, ?_⟩
     refine gQ 8 rfl rfl hF hS rfl (ef_bslice0 ty48 ty29) ?_
     rintro v_1_8 _ _ a w ⟨rfl, rfl⟩ hF hS
     refine ⟨⟨.inr (hS.k1 (sN4)), .inr hS.k0, iQ, iQ, .inr (hS.k1 (sN4)), .inr hS.k0, .inr (hS.k1 (sN4)), .inr hS.k0, trivial⟩, ?_⟩
     refine gQ 11 rfl rfl hF hS rfl (ef_append ty48 ty29 0 rfl rfl rfl (src_slA ty48 hsd zin0 deQ) bQ rfl deQ) ?_
     rintro v_1_11 _ _ a w ⟨rfl, rfl⟩ hF hS
     refine ⟨⟨iQ, iQ, iQ, iQ, .inr (hS.k1 (sN4)), .inr hS.k0, .inr (hS.k1 (sN4)), .inr hS.k0, trivial⟩, ?_⟩
     refine tQ 12 rfl hF (hS.keep sQ (zQ.k.k)) (q_buildS1 ty54 4 kQ rfl rfl (oc_cons rfl (oc_cons rfl (oc_cons (row_one (hS.ow 1 rfl)) (oc_cons (row_one (hS.ow 0 rfl)) oc_nil)))) rfl rfl) fun a hF => ?_
     refine gQ 14 rfl rfl hF hS rfl (ef_storeW ty54 2 rfl rfl rfl rfl bQ (oc_cons rfl (oc_cons rfl (oc_cons (row_one (hS.ow 1 rfl)) (oc_cons (row_one (hS.ow 0 rfl)) oc_nil)))) bQ) ?_
     rintro _ _ _ a w ⟨rfl, rfl, rfl⟩ hF hS
     refine ⟨⟨iQ, iQ, iQ, iQ, iQ, iQ, iQ, iQ, iQ, trivial⟩, ?_⟩
     exact goW_done kQ (j5_mk v_1_4 v_1_7 v_1_8 v_1_11 b_1_13 (trivial) (hF.sub (L' := [(1, _), (2, _), (6, _), (7, _)]) ⟨rfl, rfl, rfl, rfl, trivial⟩) ((hS.perm (.cons _ (.swap _ _ _))).perm (.swap _ _ _)))
    ·refine stepW_ef _ rfl rfl hF hS rfl (ef_bslice0 ty48 ty29) ?_
     rintro v_1_8 _ _ a w ⟨rfl, rfl⟩ hF hS
     refine ⟨⟨.inr (hS.k1 (sN4)), .inr hS.k0, .inr (hS.k1 (sN4)), .inr hS.k0, .inr (hS.k1 (sN4)), .inr hS.k0, .inr (hS.k1 (sN4)), .inr hS.k0, trivial⟩, ?_⟩
     refine gQ 7 rfl rfl hF hS rfl (ef_append ty24 ty75 1 rfl rfl rfl (src_slK ty24 hb zin0 deQ) bQ rfl deQ) ?_
     rintro v_1_7 _ _ a w ⟨rfl, rfl⟩ hF hS
     refine ⟨⟨.inr (hS.k1 (sN4)), .inr hS.k0, iQ, iQ, .inr (hS.k1 (sN4)), .inr hS.k0, .inr (hS.k1 (sN4)), .inr hS.k0, trivial⟩, ?_⟩
     refine gQ 11 rfl rfl hF hS rfl (ef_append ty48 ty29 0 rfl rfl rfl (src_slA ty48 hsd zin0 deQ) bQ rfl deQ) ?_
     rintro v_1_11 _ _ a w ⟨rfl, rfl⟩ hF hS
     refine ⟨⟨iQ, iQ, iQ, iQ, .inr (hS.k1 (sN4)), .inr hS.k0, .inr (hS.k1 (sN4)), .inr hS.k0, trivial⟩, ?_⟩
     refine tQ 12 rfl hF (hS.keep sQ (zQ.k.k)) (q_buildS1 ty54 4 kQ rfl rfl (oc_cons rfl (oc_cons rfl (oc_cons (row_one (hS.ow 1 rfl)) (oc_cons (row_one (hS.ow 0 rfl)) oc_nil)))) rfl rfl) fun a hF => ?_
     refine gQ 14 rfl rfl hF hS rfl (ef_storeW ty54 2 rfl rfl rfl rfl bQ (oc_cons rfl (oc_cons rfl (oc_cons (row_one (hS.ow 1 rfl)) (oc_cons (row_one (hS.ow 0 rfl)) oc_nil)))) bQ) ?_
     rintro _ _ _ a w ⟨rfl, rfl, rfl⟩ hF hS
     refine ⟨⟨iQ, iQ, iQ, iQ, iQ, iQ, iQ, iQ, iQ, trivial⟩, ?_⟩
     exact goW_done kQ (j5_mk v_1_4 v_1_7 v_1_8 v_1_11 b_1_13 (trivial) (hF.sub (L' := [(1, _), (2, _), (6, _), (7, _)]) ⟨rfl, rfl, rfl, rfl, trivial⟩) ((hS.perm (.cons _ (.swap _ _ _))).perm (.swap _ _ _)))
   ·refine stepW_ef _ rfl rfl hF hS rfl (ef_bslice0 ty48 ty29) ?_
    rintro v_1_8 _ _ a w ⟨rfl, rfl⟩ hF hS
    refine ⟨⟨.inr (hS.k1 (sN3)), .inr hS.k0, .inr (hS.k1 (sN3)), .inr hS.k0, .inr (hS.k1 (sN3)), .inr hS.k0, .inr (hS.k1 (sN3)), .inr hS.k0, trivial⟩, ?_⟩
    refine gQ 4 rfl rfl hF hS rfl (ef_bslice0 ty24 ty75) ?_
    rintro v_1_4 _ _ a w ⟨rfl, rfl⟩ hF hS
    refine ⟨⟨.inr (hS.k1 (sN4)), .inr hS.k0, .inr (hS.k1 (sN4)), .inr hS.k0, .inr (hS.k1 (sN4)), .inr hS.k0, .inr (hS.k1 (sN4)), .inr hS.k0, trivial⟩, ?_⟩
    refine gQ 7 rfl rfl hF hS rfl (ef_append ty24 ty75 0 rfl rfl rfl (src_slK ty24 hb zin0 deQ) bQ rfl deQ) ?_
    rintro v_1_7 _ _ a w ⟨rfl, rfl⟩ hF hS
    refine ⟨⟨.inr (hS.k1 (sN4)), .inr hS.k0, iQ, iQ, .inr (hS.k1 (sN4)), .inr hS.k0, .inr (hS.k1 (sN4)), .inr hS.k0, trivial⟩, ?_⟩
    refine gQ 11 rfl rfl hF hS rfl (ef_append ty48 ty29 1 rfl rfl rfl (src_slA ty48 hsd zin0 deQ) bQ rfl deQ) ?_
    rintro v_1_11 _ _ a w ⟨rfl, rfl⟩ hF hS
    refine ⟨⟨iQ, iQ, iQ, iQ, .inr (hS.k1 (sN4)), .inr hS.k0, .inr (hS.k1 (sN4)), .inr hS.k0, trivial⟩, ?_⟩
    refine tQ 12 rfl hF (hS.keep sQ (zQ.k.k)) (q_buildS1 ty54 4 kQ rfl rfl (oc_cons rfl (oc_cons rfl (oc_cons (row_one (hS.ow 0 rfl)) (oc_cons (row_one (hS.ow 1 rfl)) oc_nil)))) rfl rfl) fun a hF => ?_
    refine gQ 14 rfl rfl hF hS rfl (ef_storeW ty54 2 rfl rfl rfl rfl bQ (oc_cons rfl (oc_cons rfl (oc_cons (row_one (hS.ow 0 rfl)) (oc_cons (row_one (hS.ow 1 rfl)) oc_nil)))) bQ) ?_
    rintro _ _ _ a w ⟨rfl, rfl, rfl⟩ hF hS
    refine ⟨⟨iQ, iQ, iQ, iQ, iQ, iQ, iQ, iQ, iQ, trivial⟩, ?_⟩
    exact goW_done kQ (j5_mk v_1_4 v_1_7 v_1_8 v_1_11 b_1_13 (trivial) (hF.sub (L' := [(1, _), (2, _), (6, _), (7, _)]) ⟨rfl, rfl, rfl, rfl, trivial⟩) (((hS.perm (.cons _ (.swap _ _ _))).perm (.swap _ _ _)).perm (.cons _ (.swap _ _ _))))
 rintro a w ⟨v_1_4, v_1_7, v_1_8, v_1_11, b_1_13, -, hF, hS⟩
 (try dsimp only at hF hS)
 replace hS := hS.perm P0_1
 replace hS := hS.rowEq (m' := ql.length) (cs' := ql.flatMap kvC) (by simp) (by simp)
 replace hS := hS.perm P0_1
 replace hS := hS.rowEq (m' := qd.length) (cs' := qd.flatten.map vb) (by simp) (by simp)
 replace hS := nl0_5 hS
 refine hK2 _ _ ?_
 refine regS hF hS (mQ rfl <| q0 (q_fieldAddr ty54 rfl rfl (s' := 0) kQ) <| q0 (q_ld_blk1 ty24 2 rfl rfl rfl rfl) <| q0 (q_len_row ty24 1 rfl rfl) <| q0 (q_max rfl rfl) <| q0 (q_call fn17 rfl (fun w hS => arnd_ct _ _ omQ omQ w ) hI) <| aQ rfl <| sq_end) fun a w hF hS => ?_
 refine regS hF hS (mQ rfl <| q0 (q_fieldAddr ty54 rfl rfl (s' := 0) kQ) <| q0 (q_ld_blk1 ty48 2 rfl rfl rfl rfl) <| q0 (q_len_row ty48 0 rfl rfl) <| q0 (q_max rfl rfl) <| q0 (q_call fn17 rfl (fun w hS => arnd_ct _ _ omQ omQ w ) hI) <| aQ rfl <| sq_end) fun a w hF hS => ?_
 refine k0 ?_; intro K5 hK5
 refine regS hF hS (mQ rfl <| q0 (q_call fn17 rfl (fun w hS => arnd_ct _ _ omQ omQ w ) hI) <| sq_end) fun a w hF hS => ?_
 refine wp_block ?_
 refine regS hF hS (q0 (q_eqi rfl rfl) <| aQ rfl <| sq_end) fun a w hF hS => ?_
 refine wp_ifd hF rfl (fun hc1 => ?_) (fun hc1 => ?_)
 ·have hkb := Gu.arnd_range (n := b) (m := 5) omQ
  refine regt 7 mixed kQ hF hS (q0 (q_fieldAddr ty54 rfl rfl (s' := 0) kQ) <| q0 (q_ld_blk1 ty3 2 rfl rfl rfl rfl) <| mQ rfl <| q0 (q_call fn17 rfl (fun w hS => arnd_ct _ _ omQ omQ w ) hI) <| q0 (q_addiW rfl rfl) <| q0 (q_subiW rfl rfl) <| q0 (q_fieldAddr ty54 rfl rfl (s' := 0) kQ) <| sq_end) fun a w hF hS => ?_
  refine eQ hF hS rfl (ef_store1 ty3 2 rfl rfl rfl rfl (by simp)) ?_
  rintro _ _ _ a w ⟨rfl, rfl, rfl⟩ hF hS
  replace hS : St _ [] [_, _, .blk _ _ ([_, _, _, _].set 0 _), _, _] _ := hS
  simp only [sC] at hS
  replace hS := nl0_5 hS
  refine wpList_nil (hK5 _ _ ?_)
  refine reglS fun K8 hK8 => ?_
  refine lQ hF hS (q0 (q_ld_blkW ty54 2 rfl rfl bQ rfl) <| sq_end) fun a w hF hS => ?_
  refine eQ hF hS rfl (ef_storeW ty54 3 rfl rfl rfl rfl bQ (oc_cons rfl (oc_cons rfl (oc_cons (row_one (hS.ow 1 rfl)) (oc_cons (row_one (hS.ow 0 rfl)) oc_nil)))) bQ) ?_
  rintro _ _ _ a w ⟨rfl, rfl, rfl⟩ hF hS
  replace hS := nl0_5 hS
  refine wpList_nil (hK8 _ _ ?_)
  refine wp_ret ?_
  have hnb := Mk.bent_sm hsm how b
  rw [show Mk.bent ⟨qf, qs, ql, qd⟩ how b = ⟨wr (wr (qf + Gu.arnd b 5) - 2), qs, ql, qd⟩ from by unfold Mk.bent; dsimp only; rw [if_pos hc1]] at hnb
  obtain ⟨hn1, hn2, hn3, hn4⟩ := hnb
  dsimp only at hn1 hn2 hn3 hn4
  replace hS := hS.perm (.swap _ _ _)
  obtain ⟨zk, hzk, hS⟩ := St.freezeF (xs := ql) (hS.rowEq (m' := List.length (ql)) (cs' := List.flatMap kvC (ql)) (rfl) (rfl)) rfl omQ (fun x hx => by have := hn3 x hx; exact ⟨by omega, by omega⟩)
  replace hS := nl1_4 hS
  obtain ⟨zm, hzm, hS⟩ := St.freezeA (m := 16) (l := qd) (hS.rowEq (m' := List.length (qd)) (cs' := List.map vb (List.flatten (qd))) (rfl) (rfl)) rfl omQ (hn4)
  replace hS := nl2_3 hS
  replace hS := hS.zone00
  replace hS := nl3_3 hS
  obtain ⟨zu, hzu, hS⟩ := hS.union
  exact fn_ret (rs := [.cell 6 54]) rfl hF hS (vs := [_]) ⟨⟨_, _, _, _, _, _, _, rfl, List.mem_of_getElem? (i := 1) rfl, ty54, .inl ⟨rfl, bQ, rfl⟩⟩, trivial⟩ (zs' := [zu]) (hs' := []) (List.singleton_sublist.2 (by simp)) zQ (pf_of (q := ⟨wr (wr (qf + Gu.arnd b 5) - 2), qs, ql, qd⟩) ⟨_, _, zu, rfl, Sl.mono (hzu _ (by simp)) hzk, Sl.mono (hzu _ (by simp)) hzm, rfl, rfl⟩ (by unfold Mk.bent; dsimp only; rw [if_pos hc1]))
 ·refine k0 ?_; intro K9 hK9
  refine reg hF hS (q0 (q_eqi rfl rfl) <| aQ rfl <| sq_end) fun a w hF hS => ?_
  refine hK9 _ _ ?_
  refine wp_ifd hF rfl (fun hc2 => ?_) (fun hc2 => ?_)
  ·have hkb := Gu.arnd_range (n := b) (m := 5) omQ
   refine regt 7 mixed kQ hF hS (q0 (q_fieldAddr ty54 rfl rfl (s' := 0) kQ) <| q0 (q_ld_blk1 ty3 2 rfl rfl rfl rfl) <| mQ rfl <| q0 (q_call fn17 rfl (fun w hS => arnd_ct _ _ omQ omQ w ) hI) <| q0 (q_addiW rfl rfl) <| q0 (q_subiW rfl rfl) <| q0 (q_fieldAddr ty54 rfl rfl (s' := 0) kQ) <| sq_end) fun a w hF hS => ?_
   refine eQ hF hS rfl (ef_store1 ty3 2 rfl rfl rfl rfl (by simp)) ?_
   rintro _ _ _ a w ⟨rfl, rfl, rfl⟩ hF hS
   replace hS : St _ [] [_, _, .blk _ _ ([_, _, _, _].set 1 _), _, _] _ := hS
   simp only [sC] at hS
   replace hS := nl0_5 hS
   refine wpList_nil (hK5 _ _ ?_)
   refine reglS fun K10 hK10 => ?_
   refine lQ hF hS (q0 (q_ld_blkW ty54 2 rfl rfl bQ rfl) <| sq_end) fun a w hF hS => ?_
   refine eQ hF hS rfl (ef_storeW ty54 3 rfl rfl rfl rfl bQ (oc_cons rfl (oc_cons rfl (oc_cons (row_one (hS.ow 1 rfl)) (oc_cons (row_one (hS.ow 0 rfl)) oc_nil)))) bQ) ?_
   rintro _ _ _ a w ⟨rfl, rfl, rfl⟩ hF hS
   replace hS := nl0_5 hS
   refine wpList_nil (hK10 _ _ ?_)
   refine wp_ret ?_
   have hnb := Mk.bent_sm hsm how b
   rw [show Mk.bent ⟨qf, qs, ql, qd⟩ how b = ⟨qf, wr (wr (qs + Gu.arnd b 5) - 2), ql, qd⟩ from by unfold Mk.bent; dsimp only; rw [if_neg hc1, if_pos hc2]] at hnb
   obtain ⟨hn1, hn2, hn3, hn4⟩ := hnb
   dsimp only at hn1 hn2 hn3 hn4
   replace hS := hS.perm (.swap _ _ _)
   obtain ⟨zk, hzk, hS⟩ := St.freezeF (xs := ql) (hS.rowEq (m' := List.length (ql)) (cs' := List.flatMap kvC (ql)) (rfl) (rfl)) rfl omQ (fun x hx => by have := hn3 x hx; exact ⟨by omega, by omega⟩)
   replace hS := nl1_4 hS
   obtain ⟨zm, hzm, hS⟩ := St.freezeA (m := 16) (l := qd) (hS.rowEq (m' := List.length (qd)) (cs' := List.map vb (List.flatten (qd))) (rfl) (rfl)) rfl omQ (hn4)
   replace hS := nl2_3 hS
   replace hS := hS.zone00
   replace hS := nl3_3 hS
   obtain ⟨zu, hzu, hS⟩ := hS.union
   exact fn_ret (rs := [.cell 6 54]) rfl hF hS (vs := [_]) ⟨⟨_, _, _, _, _, _, _, rfl, List.mem_of_getElem? (i := 1) rfl, ty54, .inl ⟨rfl, bQ, rfl⟩⟩, trivial⟩ (zs' := [zu]) (hs' := []) (List.singleton_sublist.2 (by simp)) zQ (pf_of (q := ⟨qf, wr (wr (qs + Gu.arnd b 5) - 2), ql, qd⟩) ⟨_, _, zu, rfl, Sl.mono (hzu _ (by simp)) hzk, Sl.mono (hzu _ (by simp)) hzm, rfl, rfl⟩ (by unfold Mk.bent; dsimp only; rw [if_neg hc1, if_pos hc2]))
  ·refine k0 ?_; intro K11 hK11
   refine reg hF hS (q0 (q_eqi rfl rfl) <| aQ rfl <| sq_end) fun a w hF hS => ?_
   refine hK11 _ _ ?_
   refine wp_ifd hF rfl (fun hc3 => ?_) (fun hc3 => ?_)
   ·have hkb := Gu.arnd_range (n := b) (m := 4) omQ
    refine regl ?_
    refine lQ hF hS (mQ rfl <| sq_end) fun a w hF hS => ?_
    refine eQ hF hS rfl (ef_bsliceA ty22 ty3 rfl rfl oQ deQ rfl rfl) ?_
    rintro v3 _ _ a w ⟨rfl, rfl⟩ hF hS
    replace hS := nl0_6 hS
    refine lQ hF hS (mQ rfl <| q0 (q_call fn17 rfl (fun w hS => arnd_ct _ _ omQ omQ w ) hI) <| q0 (q_idx_row ty22 ty3 0 rfl rfl rfl omQ) <| q0 (q_ld_rowM (f := vi) (xs := [b, 4096, 4097, -1]) ty3 0 0 rfl rfl (by show _ < 4; omega) rfl) <| q0 (q_fieldAddr ty54 rfl rfl (s' := 0) kQ) <| sq_end) fun a w hF hS => ?_
    refine eQ hF hS rfl (ef_store1 ty3 3 rfl rfl rfl rfl (by simp)) ?_
    rintro _ _ _ a w ⟨rfl, rfl, rfl⟩ hF hS
    replace hS : St _ [] [_, _, _, .blk _ _ ([_, _, _, _].set 1 _), _, _] _ := hS
    simp only [sC] at hS
    replace hS := nl0_6 hS
    refine wpList_nil (hK5 _ _ ?_)
    refine reglS fun K12 hK12 => ?_
    refine lQ hF hS (q0 (q_ld_blkW ty54 3 rfl rfl bQ rfl) <| sq_end) fun a w hF hS => ?_
    refine eQ hF hS rfl (ef_storeW ty54 4 rfl rfl rfl rfl bQ (oc_cons rfl (oc_cons rfl (oc_cons (row_one (hS.ow 2 rfl)) (oc_cons (row_one (hS.ow 1 rfl)) oc_nil)))) bQ) ?_
    rintro _ _ _ a w ⟨rfl, rfl, rfl⟩ hF hS
    replace hS := nl0_6 hS
    refine wpList_nil (hK12 _ _ ?_)
    refine wp_ret ?_
    have hnb := Mk.bent_sm hsm how b
    rw [show Mk.bent ⟨qf, qs, ql, qd⟩ how b = ⟨qf, ([b, 4096, 4097, -1].getD (Gu.arnd b 4).toNat 0), ql, qd⟩ from by unfold Mk.bent; dsimp only; rw [if_neg hc1, if_neg hc2, if_pos hc3]] at hnb
    obtain ⟨hn1, hn2, hn3, hn4⟩ := hnb
    dsimp only at hn1 hn2 hn3 hn4
    replace hS := hS.perm P0_1
    obtain ⟨zk, hzk, hS⟩ := St.freezeF (xs := ql) (hS.rowEq (m' := List.length (ql)) (cs' := List.flatMap kvC (ql)) (rfl) (rfl)) rfl omQ (fun x hx => by have := hn3 x hx; exact ⟨by omega, by omega⟩)
    replace hS : St _ [_] [_, _, _, _, _] _ := hS
    replace hS := hS.perm (.swap _ _ _)
    obtain ⟨zm, hzm, hS⟩ := St.freezeA (m := 16) (l := qd) (hS.rowEq (m' := List.length (qd)) (cs' := List.map vb (List.flatten (qd))) (rfl) (rfl)) rfl omQ (hn4)
    replace hS : St _ [_, _] [_, _, _, _] _ := hS
    replace hS := hS.zone00
    replace hS : St _ [_, _, _] [_, _, _, _] _ := hS
    obtain ⟨zu, hzu, hS⟩ := hS.union
    exact fn_ret (rs := [.cell 6 54]) rfl hF hS (vs := [_]) ⟨⟨_, _, _, _, _, _, _, rfl, List.mem_of_getElem? (i := 2) rfl, ty54, .inl ⟨rfl, bQ, rfl⟩⟩, trivial⟩ (zs' := [zu]) (hs' := []) (List.singleton_sublist.2 (by simp)) zQ (pf_of (q := ⟨qf, ([b, 4096, 4097, -1].getD (Gu.arnd b 4).toNat 0), ql, qd⟩) ⟨_, _, zu, rfl, Sl.mono (hzu _ (by simp)) hzk, Sl.mono (hzu _ (by simp)) hzm, rfl, rfl⟩ (by unfold Mk.bent; dsimp only; rw [if_neg hc1, if_neg hc2, if_pos hc3]))
   ·refine k0 ?_; intro K13 hK13
    refine reg hF hS (q0 (q_eqi rfl rfl) <| aQ rfl <| sq_end) fun a w hF hS => ?_
    refine hK13 _ _ ?_
    refine wp_ifd hF rfl (fun hc4 => ?_) (fun hc4 => ?_)
    ·refine regl ?_
     refine lQ hF hS (mQ rfl <| q0 (q_fieldAddr ty54 rfl rfl (s' := 0) kQ) <| sq_end) fun a w hF hS => ?_
     refine eQ hF hS rfl (ef_store1 ty3 2 rfl rfl rfl rfl (by simp)) ?_
     rintro _ _ _ a w ⟨rfl, rfl, rfl⟩ hF hS
     replace hS : St _ [] [_, _, .blk _ _ ([_, _, _, _].set 0 _), _, _] _ := hS
     simp only [sC] at hS
     replace hS := nl0_5 hS
     refine wpList_nil (hK5 _ _ ?_)
     refine reglS fun K14 hK14 => ?_
     refine lQ hF hS (q0 (q_ld_blkW ty54 2 rfl rfl bQ rfl) <| sq_end) fun a w hF hS => ?_
     refine eQ hF hS rfl (ef_storeW ty54 3 rfl rfl rfl rfl bQ (oc_cons rfl (oc_cons rfl (oc_cons (row_one (hS.ow 1 rfl)) (oc_cons (row_one (hS.ow 0 rfl)) oc_nil)))) bQ) ?_
     rintro _ _ _ a w ⟨rfl, rfl, rfl⟩ hF hS
     replace hS := nl0_5 hS
     refine wpList_nil (hK14 _ _ ?_)
     refine wp_ret ?_
     have hnb := Mk.bent_sm hsm how b
     rw [show Mk.bent ⟨qf, qs, ql, qd⟩ how b = ⟨b, qs, ql, qd⟩ from by unfold Mk.bent; dsimp only; rw [if_neg hc1, if_neg hc2, if_neg hc3, if_pos hc4]] at hnb
     obtain ⟨hn1, hn2, hn3, hn4⟩ := hnb
     dsimp only at hn1 hn2 hn3 hn4
     replace hS := hS.perm (.swap _ _ _)
     obtain ⟨zk, hzk, hS⟩ := St.freezeF (xs := ql) (hS.rowEq (m' := List.length (ql)) (cs' := List.flatMap kvC (ql)) (rfl) (rfl)) rfl omQ (fun x hx => by have := hn3 x hx; exact ⟨by omega, by omega⟩)
     replace hS := nl1_4 hS
     obtain ⟨zm, hzm, hS⟩ := St.freezeA (m := 16) (l := qd) (hS.rowEq (m' := List.length (qd)) (cs' := List.map vb (List.flatten (qd))) (rfl) (rfl)) rfl omQ (hn4)
     replace hS := nl2_3 hS
     replace hS := hS.zone00
     replace hS := nl3_3 hS
     obtain ⟨zu, hzu, hS⟩ := hS.union
     exact fn_ret (rs := [.cell 6 54]) rfl hF hS (vs := [_]) ⟨⟨_, _, _, _, _, _, _, rfl, List.mem_of_getElem? (i := 1) rfl, ty54, .inl ⟨rfl, bQ, rfl⟩⟩, trivial⟩ (zs' := [zu]) (hs' := []) (List.singleton_sublist.2 (by simp)) zQ (pf_of (q := ⟨b, qs, ql, qd⟩) ⟨_, _, zu, rfl, Sl.mono (hzu _ (by simp)) hzk, Sl.mono (hzu _ (by simp)) hzm, rfl, rfl⟩ (by unfold Mk.bent; dsimp only; rw [if_neg hc1, if_neg hc2, if_neg hc3, if_pos hc4]))
    ·refine k0 ?_; intro K15 hK15
     refine reg hF hS (q0 (q_eqi rfl rfl) <| aQ rfl <| sq_end) fun a w hF hS => ?_
     refine hK15 _ _ ?_
     refine wp_ifd hF rfl (fun hc5 => ?_) (fun hc5 => ?_)
     ·have hkb := Gu.arnd_range (n := b) (m := 40) omQ
      refine regS hF hS (q0 (q_fieldAddr ty54 rfl rfl (s' := 0) kQ) <| q0 (q_ld_blk1 ty24 2 rfl rfl rfl rfl) <| q0 (q_len_row ty24 1 rfl rfl) <| q0 (q_gti rfl rfl) <| sq_end) fun a w hF hS => ?_
      refine wp_ifd hF rfl (fun hc6 => ?_) (fun hc6 => ?_)
      ·have hkl : (Gu.arnd b (max (ql.length : Int) 1)).toNat < ql.length := by omega
       have hxk := hxs _ (Mk.getD_in (xs := ql) (k := (Gu.arnd b (max (ql.length : Int) 1)).toNat) hkl)
       refine regt 8 mixed kQ hF hS (q0 (q_fieldAddr ty54 rfl rfl (s' := 0) kQ) <| q0 (q_ld_blk1 ty24 2 rfl rfl rfl rfl) <| mQ rfl <| mQ rfl <| q0 (q_call fn17 rfl (fun w hS => arnd_ct _ _ omQ omQ w ) hI) <| q0 (q_call fn49 rfl (fun w hS => keyB_ct _ omQ w ) hI) <| q0 (q_idx_row ty24 ty75 1 rfl rfl rfl omQ) <| q0 (q_fld_row ty75 1 rfl rfl omQ rfl (s' := 0) kQ) <| sq_end) fun a w hF hS => ?_
       refine eQ hF hS rfl (ef_st_rowK (f := kvC) (x' := (Mk.keyB (Gu.arnd b 40), (ql.getD (Gu.arnd b (max (ql.length : Int) 1)).toNat kv0).2)) kvC_len ty9 1 rfl rfl rfl (kget kv0 hkl) deQ rfl rfl) ?_
       rintro _ _ _ a w ⟨rfl, rfl, rfl⟩ hF hS
       replace hS := nl0_5 hS
       refine wpList_nil (hK5 _ _ ?_)
       refine reglS fun K17 hK17 => ?_
       refine lQ hF hS (q0 (q_ld_blkW ty54 2 rfl rfl bQ rfl) <| sq_end) fun a w hF hS => ?_
       refine eQ hF hS rfl (ef_storeW ty54 3 rfl rfl rfl rfl bQ (oc_cons rfl (oc_cons rfl (oc_cons (row_one (hS.ow 1 rfl)) (oc_cons (row_one (hS.ow 0 rfl)) oc_nil)))) bQ) ?_
       rintro _ _ _ a w ⟨rfl, rfl, rfl⟩ hF hS
       replace hS := nl0_5 hS
       refine wpList_nil (hK17 _ _ ?_)
       refine wp_ret ?_
       have hnb := Mk.bent_sm hsm how b
       rw [show Mk.bent ⟨qf, qs, ql, qd⟩ how b = ⟨qf, qs, (ql.set (Gu.arnd b (max (ql.length : Int) 1)).toNat (Mk.keyB (Gu.arnd b 40), (ql.getD (Gu.arnd b (max (ql.length : Int) 1)).toNat kv0).2)), qd⟩ from by unfold Mk.bent; dsimp only; rw [if_neg hc1, if_neg hc2, if_neg hc3, if_neg hc4, if_pos hc5, if_pos (show 0 < ql.length by omega)]; rfl] at hnb
       obtain ⟨hn1, hn2, hn3, hn4⟩ := hnb
       dsimp only at hn1 hn2 hn3 hn4
       replace hS := hS.perm (.swap _ _ _)
       obtain ⟨zk, hzk, hS⟩ := St.freezeF (xs := (ql.set (Gu.arnd b (max (ql.length : Int) 1)).toNat (Mk.keyB (Gu.arnd b 40), (ql.getD (Gu.arnd b (max (ql.length : Int) 1)).toNat kv0).2))) (hS.rowEq (m' := List.length ((ql.set (Gu.arnd b (max (ql.length : Int) 1)).toNat (Mk.keyB (Gu.arnd b 40), (ql.getD (Gu.arnd b (max (ql.length : Int) 1)).toNat kv0).2)))) (cs' := List.flatMap kvC ((ql.set (Gu.arnd b (max (ql.length : Int) 1)).toNat (Mk.keyB (Gu.arnd b 40), (ql.getD (Gu.arnd b (max (ql.length : Int) 1)).toNat kv0).2)))) (by rw [List.length_set]) (rfl)) rfl omQ (fun x hx => by have := hn3 x hx; exact ⟨by omega, by omega⟩)
       replace hS := nl1_4 hS
       obtain ⟨zm, hzm, hS⟩ := St.freezeA (m := 16) (l := qd) (hS.rowEq (m' := List.length (qd)) (cs' := List.map vb (List.flatten (qd))) (rfl) (rfl)) rfl omQ (hn4)
       replace hS := nl2_3 hS
       replace hS := hS.zone00
       replace hS := nl3_3 hS
       obtain ⟨zu, hzu, hS⟩ := hS.union
       exact fn_ret (rs := [.cell 6 54]) rfl hF hS (vs := [_]) ⟨⟨_, _, _, _, _, _, _, rfl, List.mem_of_getElem? (i := 1) rfl, ty54, .inl ⟨rfl, bQ, rfl⟩⟩, trivial⟩ (zs' := [zu]) (hs' := []) (List.singleton_sublist.2 (by simp)) zQ (pf_of (q := ⟨qf, qs, (ql.set (Gu.arnd b (max (ql.length : Int) 1)).toNat (Mk.keyB (Gu.arnd b 40), (ql.getD (Gu.arnd b (max (ql.length : Int) 1)).toNat kv0).2)), qd⟩) ⟨_, _, zu, rfl, Sl.mono (hzu _ (by simp)) hzk, Sl.mono (hzu _ (by simp)) hzm, rfl, rfl⟩ (by unfold Mk.bent; dsimp only; rw [if_neg hc1, if_neg hc2, if_neg hc3, if_neg hc4, if_pos hc5, if_pos (show 0 < ql.length by omega)]; rfl))
      ·refine wp_skip ?_
       refine hK5 _ _ ?_
       refine reglS fun K18 hK18 => ?_
       refine lQ hF hS (q0 (q_ld_blkW ty54 2 rfl rfl bQ rfl) <| sq_end) fun a w hF hS => ?_
       refine eQ hF hS rfl (ef_storeW ty54 3 rfl rfl rfl rfl bQ (oc_cons rfl (oc_cons rfl (oc_cons (row_one (hS.ow 1 rfl)) (oc_cons (row_one (hS.ow 0 rfl)) oc_nil)))) bQ) ?_
       rintro _ _ _ a w ⟨rfl, rfl, rfl⟩ hF hS
       replace hS := nl0_5 hS
       refine wpList_nil (hK18 _ _ ?_)
       refine wp_ret ?_
       have hnb := Mk.bent_sm hsm how b
       rw [show Mk.bent ⟨qf, qs, ql, qd⟩ how b = ⟨qf, qs, ql, qd⟩ from by unfold Mk.bent; dsimp only; rw [if_neg hc1, if_neg hc2, if_neg hc3, if_neg hc4, if_pos hc5, if_neg (show ¬ 0 < ql.length by omega)]] at hnb
       obtain ⟨hn1, hn2, hn3, hn4⟩ := hnb
       dsimp only at hn1 hn2 hn3 hn4
       replace hS := hS.perm (.swap _ _ _)
       obtain ⟨zk, hzk, hS⟩ := St.freezeF (xs := ql) (hS.rowEq (m' := List.length (ql)) (cs' := List.flatMap kvC (ql)) (rfl) (rfl)) rfl omQ (fun x hx => by have := hn3 x hx; exact ⟨by omega, by omega⟩)
       replace hS := nl1_4 hS
       obtain ⟨zm, hzm, hS⟩ := St.freezeA (m := 16) (l := qd) (hS.rowEq (m' := List.length (qd)) (cs' := List.map vb (List.flatten (qd))) (rfl) (rfl)) rfl omQ (hn4)
       replace hS := nl2_3 hS
       replace hS := hS.zone00
       replace hS := nl3_3 hS
       obtain ⟨zu, hzu, hS⟩ := hS.union
       exact fn_ret (rs := [.cell 6 54]) rfl hF hS (vs := [_]) ⟨⟨_, _, _, _, _, _, _, rfl, List.mem_of_getElem? (i := 1) rfl, ty54, .inl ⟨rfl, bQ, rfl⟩⟩, trivial⟩ (zs' := [zu]) (hs' := []) (List.singleton_sublist.2 (by simp)) zQ (pf_of (q := ⟨qf, qs, ql, qd⟩) ⟨_, _, zu, rfl, Sl.mono (hzu _ (by simp)) hzk, Sl.mono (hzu _ (by simp)) hzm, rfl, rfl⟩ (by unfold Mk.bent; dsimp only; rw [if_neg hc1, if_neg hc2, if_neg hc3, if_neg hc4, if_pos hc5, if_neg (show ¬ 0 < ql.length by omega)]))
     ·refine k0 ?_; intro K19 hK19
      refine reg hF hS (q0 (q_eqi rfl rfl) <| aQ rfl <| sq_end) fun a w hF hS => ?_
      refine hK19 _ _ ?_
      refine wp_ifd hF rfl (fun hc7 => ?_) (fun hc7 => ?_)
      ·refine k0 ?_; intro K20 hK20
       refine reg hF hS (q0 (q_fieldAddr ty54 rfl rfl (s' := 0) kQ) <| q0 (q_ld_blk1 ty24 2 rfl rfl rfl rfl) <| q0 (q_len_row ty24 1 rfl rfl) <| q0 (q_gti rfl rfl) <| sq_end) fun a w hF hS => ?_
       refine hK20 _ _ ?_
       refine wp_ifd hF rfl (fun hc8 => ?_) (fun hc8 => ?_)
       ·have hkl : (Gu.arnd b (max (ql.length : Int) 1)).toNat < ql.length := by omega
        have hxk := hxs _ (Mk.getD_in (xs := ql) (k := (Gu.arnd b (max (ql.length : Int) 1)).toNat) hkl)
        refine regt 12 mixed kQ hF hS (q0 (q_fieldAddr ty54 rfl rfl (s' := 0) kQ) <| q0 (q_ld_blk1 ty24 2 rfl rfl rfl rfl) <| mQ rfl <| q0 (q_fieldAddr ty54 rfl rfl (s' := 0) kQ) <| q0 (q_ld_blk1 ty24 2 rfl rfl rfl rfl) <| mQ rfl <| q0 (q_idx_row ty24 ty75 1 rfl rfl rfl omQ) <| q0 (q_fld_row ty75 1 rfl rfl omQ rfl (s' := 0) kQ) <| q0 (q_ld_rowK1 (f := kvC) kvC_len kv0 ty9 1 rfl rfl rfl hkl deQ rfl) <| q0 (q_adds (q := [120]) rfl rfl (by rw [show ([120] : List UInt8).length = 1 from rfl]; omega)) <| q0 (q_idx_row ty24 ty75 1 rfl rfl rfl omQ) <| q0 (q_fld_row ty75 1 rfl rfl omQ rfl (s' := 0) kQ) <| sq_end) fun a w hF hS => ?_
        refine eQ hF hS rfl (ef_st_rowK (f := kvC) (x' := ((ql.getD (Gu.arnd b (max (ql.length : Int) 1)).toNat kv0).1, (ql.getD (Gu.arnd b (max (ql.length : Int) 1)).toNat kv0).2 ++ [120])) kvC_len ty9 1 rfl rfl rfl (kget kv0 hkl) deQ rfl rfl) ?_
        rintro _ _ _ a w ⟨rfl, rfl, rfl⟩ hF hS
        replace hS := nl0_5 hS
        refine wpList_nil (hK5 _ _ ?_)
        refine reglS fun K21 hK21 => ?_
        refine lQ hF hS (q0 (q_ld_blkW ty54 2 rfl rfl bQ rfl) <| sq_end) fun a w hF hS => ?_
        refine eQ hF hS rfl (ef_storeW ty54 3 rfl rfl rfl rfl bQ (oc_cons rfl (oc_cons rfl (oc_cons (row_one (hS.ow 1 rfl)) (oc_cons (row_one (hS.ow 0 rfl)) oc_nil)))) bQ) ?_
        rintro _ _ _ a w ⟨rfl, rfl, rfl⟩ hF hS
        replace hS := nl0_5 hS
        refine wpList_nil (hK21 _ _ ?_)
        refine wp_ret ?_
        have hnb := Mk.bent_sm hsm how b
        rw [show Mk.bent ⟨qf, qs, ql, qd⟩ how b = ⟨qf, qs, (ql.set (Gu.arnd b (max (ql.length : Int) 1)).toNat ((ql.getD (Gu.arnd b (max (ql.length : Int) 1)).toNat kv0).1, (ql.getD (Gu.arnd b (max (ql.length : Int) 1)).toNat kv0).2 ++ [120])), qd⟩ from by unfold Mk.bent; dsimp only; rw [if_neg hc1, if_neg hc2, if_neg hc3, if_neg hc4, if_neg hc5, if_pos hc7, if_pos (show 0 < ql.length by omega)]; rfl] at hnb
        obtain ⟨hn1, hn2, hn3, hn4⟩ := hnb
        dsimp only at hn1 hn2 hn3 hn4
        replace hS := hS.perm (.swap _ _ _)
        obtain ⟨zk, hzk, hS⟩ := St.freezeF (xs := (ql.set (Gu.arnd b (max (ql.length : Int) 1)).toNat ((ql.getD (Gu.arnd b (max (ql.length : Int) 1)).toNat kv0).1, (ql.getD (Gu.arnd b (max (ql.length : Int) 1)).toNat kv0).2 ++ [120]))) (hS.rowEq (m' := List.length ((ql.set (Gu.arnd b (max (ql.length : Int) 1)).toNat ((ql.getD (Gu.arnd b (max (ql.length : Int) 1)).toNat kv0).1, (ql.getD (Gu.arnd b (max (ql.length : Int) 1)).toNat kv0).2 ++ [120])))) (cs' := List.flatMap kvC ((ql.set (Gu.arnd b (max (ql.length : Int) 1)).toNat ((ql.getD (Gu.arnd b (max (ql.length : Int) 1)).toNat kv0).1, (ql.getD (Gu.arnd b (max (ql.length : Int) 1)).toNat kv0).2 ++ [120])))) (by rw [List.length_set]) (rfl)) rfl omQ (fun x hx => by have := hn3 x hx; exact ⟨by omega, by omega⟩)
        replace hS := nl1_4 hS
        obtain ⟨zm, hzm, hS⟩ := St.freezeA (m := 16) (l := qd) (hS.rowEq (m' := List.length (qd)) (cs' := List.map vb (List.flatten (qd))) (rfl) (rfl)) rfl omQ (hn4)
        replace hS := nl2_3 hS
        replace hS := hS.zone00
        replace hS := nl3_3 hS
        obtain ⟨zu, hzu, hS⟩ := hS.union
        exact fn_ret (rs := [.cell 6 54]) rfl hF hS (vs := [_]) ⟨⟨_, _, _, _, _, _, _, rfl, List.mem_of_getElem? (i := 1) rfl, ty54, .inl ⟨rfl, bQ, rfl⟩⟩, trivial⟩ (zs' := [zu]) (hs' := []) (List.singleton_sublist.2 (by simp)) zQ (pf_of (q := ⟨qf, qs, (ql.set (Gu.arnd b (max (ql.length : Int) 1)).toNat ((ql.getD (Gu.arnd b (max (ql.length : Int) 1)).toNat kv0).1, (ql.getD (Gu.arnd b (max (ql.length : Int) 1)).toNat kv0).2 ++ [120])), qd⟩) ⟨_, _, zu, rfl, Sl.mono (hzu _ (by simp)) hzk, Sl.mono (hzu _ (by simp)) hzm, rfl, rfl⟩ (by unfold Mk.bent; dsimp only; rw [if_neg hc1, if_neg hc2, if_neg hc3, if_neg hc4, if_neg hc5, if_pos hc7, if_pos (show 0 < ql.length by omega)]; rfl))
       ·refine wp_skip ?_
        refine hK5 _ _ ?_
        refine reglS fun K22 hK22 => ?_
        refine lQ hF hS (q0 (q_ld_blkW ty54 2 rfl rfl bQ rfl) <| sq_end) fun a w hF hS => ?_
        refine eQ hF hS rfl (ef_storeW ty54 3 rfl rfl rfl rfl bQ (oc_cons rfl (oc_cons rfl (oc_cons (row_one (hS.ow 1 rfl)) (oc_cons (row_one (hS.ow 0 rfl)) oc_nil)))) bQ) ?_
        rintro _ _ _ a w ⟨rfl, rfl, rfl⟩ hF hS
        replace hS := nl0_5 hS
        refine wpList_nil (hK22 _ _ ?_)
        refine wp_ret ?_
        have hnb := Mk.bent_sm hsm how b
        rw [show Mk.bent ⟨qf, qs, ql, qd⟩ how b = ⟨qf, qs, ql, qd⟩ from by unfold Mk.bent; dsimp only; rw [if_neg hc1, if_neg hc2, if_neg hc3, if_neg hc4, if_neg hc5, if_pos hc7, if_neg (show ¬ 0 < ql.length by omega)]] at hnb
        obtain ⟨hn1, hn2, hn3, hn4⟩ := hnb
        dsimp only at hn1 hn2 hn3 hn4
        replace hS := hS.perm (.swap _ _ _)
        obtain ⟨zk, hzk, hS⟩ := St.freezeF (xs := ql) (hS.rowEq (m' := List.length (ql)) (cs' := List.flatMap kvC (ql)) (rfl) (rfl)) rfl omQ (fun x hx => by have := hn3 x hx; exact ⟨by omega, by omega⟩)
        replace hS := nl1_4 hS
        obtain ⟨zm, hzm, hS⟩ := St.freezeA (m := 16) (l := qd) (hS.rowEq (m' := List.length (qd)) (cs' := List.map vb (List.flatten (qd))) (rfl) (rfl)) rfl omQ (hn4)
        replace hS := nl2_3 hS
        replace hS := hS.zone00
        replace hS := nl3_3 hS
        obtain ⟨zu, hzu, hS⟩ := hS.union
        exact fn_ret (rs := [.cell 6 54]) rfl hF hS (vs := [_]) ⟨⟨_, _, _, _, _, _, _, rfl, List.mem_of_getElem? (i := 1) rfl, ty54, .inl ⟨rfl, bQ, rfl⟩⟩, trivial⟩ (zs' := [zu]) (hs' := []) (List.singleton_sublist.2 (by simp)) zQ (pf_of (q := ⟨qf, qs, ql, qd⟩) ⟨_, _, zu, rfl, Sl.mono (hzu _ (by simp)) hzk, Sl.mono (hzu _ (by simp)) hzm, rfl, rfl⟩ (by unfold Mk.bent; dsimp only; rw [if_neg hc1, if_neg hc2, if_neg hc3, if_neg hc4, if_neg hc5, if_pos hc7, if_neg (show ¬ 0 < ql.length by omega)]))
      ·refine k0 ?_; intro K23 hK23
       refine reg hF hS (q0 (q_eqi rfl rfl) <| aQ rfl <| sq_end) fun a w hF hS => ?_
       refine hK23 _ _ ?_
       refine wp_ifd hF rfl (fun hc9 => ?_) (fun hc9 => ?_)
       ·refine k0 ?_; intro K24 hK24
        refine reg hF hS (q0 (q_fieldAddr ty54 rfl rfl (s' := 0) kQ) <| q0 (q_ld_blk1 ty24 2 rfl rfl rfl rfl) <| q0 (q_len_row ty24 1 rfl rfl) <| q0 (q_gti rfl rfl) <| sq_end) fun a w hF hS => ?_
        refine hK24 _ _ ?_
        refine wp_ifd hF rfl (fun hc10 => ?_) (fun hc10 => ?_)
        ·have hkl : (Gu.arnd b (max (ql.length : Int) 1)).toNat < ql.length := by omega
         have hxk := hxs _ (Mk.getD_in (xs := ql) (k := (Gu.arnd b (max (ql.length : Int) 1)).toNat) hkl)
         refine regt 9 mixed kQ hF hS (q0 (q_fieldAddr ty54 rfl rfl (s' := 0) kQ) <| q0 (q_ld_blk1 ty24 2 rfl rfl rfl rfl) <| mQ rfl <| q0 (q_slrowS_hi ty24 ty75 1 rfl rfl rfl omQ) <| q0 (q_fieldAddr ty54 rfl rfl (s' := 0) kQ) <| q0 (q_ld_blk1 ty24 2 rfl rfl rfl rfl) <| mQ rfl <| pQ rfl rfl <| q0 (q_slrowS_lo ty24 ty75 1 rfl rfl rfl omQ) <| sq_end) fun a w hF hS => ?_
         refine eQ hF hS rfl (ef_append_cutS ty24 ty75 1 rfl rfl omQ rfl omQ omQ (K_one _ kvC_one) rfl deQ) ?_
         rintro v5 _ _ a w ⟨rfl, rfl⟩ hF hS
         replace hS := nl0_5 hS
         refine lQ hF hS (q0 (q_fieldAddr ty54 rfl rfl (s' := 0) kQ) <| sq_end) fun a w hF hS => ?_
         refine eQ hF hS rfl (ef_store1 ty24 2 rfl rfl rfl (row_one (hS.ow 1 rfl)) (by simp)) ?_
         rintro _ _ _ a w ⟨rfl, rfl, rfl⟩ hF hS
         replace hS : St _ [] [_, _, .blk _ _ ([_, _, _, _].set 2 _), _, _] _ := hS
         simp only [sC] at hS
         replace hS := nl0_5 hS
         refine wpList_nil (hK5 _ _ ?_)
         refine reglS fun K25 hK25 => ?_
         refine lQ hF hS (q0 (q_ld_blkW ty54 2 rfl rfl bQ rfl) <| sq_end) fun a w hF hS => ?_
         refine eQ hF hS rfl (ef_storeW ty54 3 rfl rfl rfl rfl bQ (oc_cons rfl (oc_cons rfl (oc_cons (row_one (hS.ow 1 rfl)) (oc_cons (row_one (hS.ow 0 rfl)) oc_nil)))) bQ) ?_
         rintro _ _ _ a w ⟨rfl, rfl, rfl⟩ hF hS
         replace hS := nl0_5 hS
         refine wpList_nil (hK25 _ _ ?_)
         refine wp_ret ?_
         have hnb := Mk.bent_sm hsm how b
         rw [show Mk.bent ⟨qf, qs, ql, qd⟩ how b = ⟨qf, qs, (ql.take (Gu.arnd b (max (ql.length : Int) 1)).toNat ++ ql.drop ((Gu.arnd b (max (ql.length : Int) 1)).toNat + 1)), qd⟩ from by unfold Mk.bent; dsimp only; rw [if_neg hc1, if_neg hc2, if_neg hc3, if_neg hc4, if_neg hc5, if_neg hc7, if_pos hc9, if_pos (show 0 < ql.length by omega)]; rfl] at hnb
         obtain ⟨hn1, hn2, hn3, hn4⟩ := hnb
         dsimp only at hn1 hn2 hn3 hn4
         replace hS := hS.perm (.swap _ _ _)
         obtain ⟨zk, hzk, hS⟩ := St.freezeF (xs := (ql.take (Gu.arnd b (max (ql.length : Int) 1)).toNat ++ ql.drop ((Gu.arnd b (max (ql.length : Int) 1)).toNat + 1))) (hS.rowEq (m' := List.length ((ql.take (Gu.arnd b (max (ql.length : Int) 1)).toNat ++ ql.drop ((Gu.arnd b (max (ql.length : Int) 1)).toNat + 1)))) (cs' := List.flatMap kvC ((ql.take (Gu.arnd b (max (ql.length : Int) 1)).toNat ++ ql.drop ((Gu.arnd b (max (ql.length : Int) 1)).toNat + 1)))) (by rw [List.length_append, List.length_take, List.length_drop]; omega) (Mk.kv_cut _ _)) rfl omQ (fun x hx => by have := hn3 x hx; exact ⟨by omega, by omega⟩)
         replace hS := nl1_4 hS
         obtain ⟨zm, hzm, hS⟩ := St.freezeA (m := 16) (l := qd) (hS.rowEq (m' := List.length (qd)) (cs' := List.map vb (List.flatten (qd))) (rfl) (rfl)) rfl omQ (hn4)
         replace hS := nl2_3 hS
         replace hS := hS.zone00
         replace hS := nl3_3 hS
         obtain ⟨zu, hzu, hS⟩ := hS.union
         exact fn_ret (rs := [.cell 6 54]) rfl hF hS (vs := [_]) ⟨⟨_, _, _, _, _, _, _, rfl, List.mem_of_getElem? (i := 1) rfl, ty54, .inl ⟨rfl, bQ, rfl⟩⟩, trivial⟩ (zs' := [zu]) (hs' := []) (List.singleton_sublist.2 (by simp)) zQ (pf_of (q := ⟨qf, qs, (ql.take (Gu.arnd b (max (ql.length : Int) 1)).toNat ++ ql.drop ((Gu.arnd b (max (ql.length : Int) 1)).toNat + 1)), qd⟩) ⟨_, _, zu, rfl, Sl.mono (hzu _ (by simp)) hzk, Sl.mono (hzu _ (by simp)) hzm, rfl, rfl⟩ (by unfold Mk.bent; dsimp only; rw [if_neg hc1, if_neg hc2, if_neg hc3, if_neg hc4, if_neg hc5, if_neg hc7, if_pos hc9, if_pos (show 0 < ql.length by omega)]; rfl))
        ·refine wp_skip ?_
         refine hK5 _ _ ?_
         refine reglS fun K26 hK26 => ?_
         refine lQ hF hS (q0 (q_ld_blkW ty54 2 rfl rfl bQ rfl) <| sq_end) fun a w hF hS => ?_
         refine eQ hF hS rfl (ef_storeW ty54 3 rfl rfl rfl rfl bQ (oc_cons rfl (oc_cons rfl (oc_cons (row_one (hS.ow 1 rfl)) (oc_cons (row_one (hS.ow 0 rfl)) oc_nil)))) bQ) ?_
         rintro _ _ _ a w ⟨rfl, rfl, rfl⟩ hF hS
         replace hS := nl0_5 hS
         refine wpList_nil (hK26 _ _ ?_)
         refine wp_ret ?_
         have hnb := Mk.bent_sm hsm how b
         rw [show Mk.bent ⟨qf, qs, ql, qd⟩ how b = ⟨qf, qs, ql, qd⟩ from by unfold Mk.bent; dsimp only; rw [if_neg hc1, if_neg hc2, if_neg hc3, if_neg hc4, if_neg hc5, if_neg hc7, if_pos hc9, if_neg (show ¬ 0 < ql.length by omega)]] at hnb
         obtain ⟨hn1, hn2, hn3, hn4⟩ := hnb
         dsimp only at hn1 hn2 hn3 hn4
         replace hS := hS.perm (.swap _ _ _)
         obtain ⟨zk, hzk, hS⟩ := St.freezeF (xs := ql) (hS.rowEq (m' := List.length (ql)) (cs' := List.flatMap kvC (ql)) (rfl) (rfl)) rfl omQ (fun x hx => by have := hn3 x hx; exact ⟨by omega, by omega⟩)
         replace hS := nl1_4 hS
         obtain ⟨zm, hzm, hS⟩ := St.freezeA (m := 16) (l := qd) (hS.rowEq (m' := List.length (qd)) (cs' := List.map vb (List.flatten (qd))) (rfl) (rfl)) rfl omQ (hn4)
         replace hS := nl2_3 hS
         replace hS := hS.zone00
         replace hS := nl3_3 hS
         obtain ⟨zu, hzu, hS⟩ := hS.union
         exact fn_ret (rs := [.cell 6 54]) rfl hF hS (vs := [_]) ⟨⟨_, _, _, _, _, _, _, rfl, List.mem_of_getElem? (i := 1) rfl, ty54, .inl ⟨rfl, bQ, rfl⟩⟩, trivial⟩ (zs' := [zu]) (hs' := []) (List.singleton_sublist.2 (by simp)) zQ (pf_of (q := ⟨qf, qs, ql, qd⟩) ⟨_, _, zu, rfl, Sl.mono (hzu _ (by simp)) hzk, Sl.mono (hzu _ (by simp)) hzm, rfl, rfl⟩ (by unfold Mk.bent; dsimp only; rw [if_neg hc1, if_neg hc2, if_neg hc3, if_neg hc4, if_neg hc5, if_neg hc7, if_pos hc9, if_neg (show ¬ 0 < ql.length by omega)]))
       ·refine k0 ?_; intro K27 hK27
        refine reg hF hS (q0 (q_eqi rfl rfl) <| aQ rfl <| sq_end) fun a w hF hS => ?_
        refine hK27 _ _ ?_
        refine wp_ifd hF rfl (fun hc11 => ?_) (fun hc11 => ?_)
        ·have hkb := Gu.arnd_range (n := b) (m := 40) omQ
         revert hS; revert hF; apply regJ (J := J2 (α0 := Value) (α1 := Value) 170 _ _ _ _ _) #[false, false, false, false, false, false, false, false, false, false] 10 mixed rfl rfl
         ·intro w hF hS
          refine tQ 0 rfl hF (hS.keep sQ zQ) (q_fieldAddr ty54 rfl rfl (s' := 0) kQ) fun a hF => ?_
          refine tQ 1 rfl hF (hS.keep sQ (zQ.k.n.n)) (q_ld_blk1 ty24 0 rfl rfl rfl rfl) fun a hF => ?_
          refine tQ 2 rfl hF (hS.keep sQ zQ) (q_move rfl) fun a hF => ?_
          refine gQ 3 rfl rfl hF hS rfl (ef_qt (q_call fn17 rfl (fun w hS => arnd_ct _ _ omQ omQ w ) hI)) ?_
          rintro _ _ _ a w ⟨rfl, rfl, rfl⟩ hF hS
          refine ⟨⟨iQ, .inr (hS.k1 (zQ.k.n.n)), .inr hS.k0, trivial⟩, ?_⟩
          refine gQ 4 rfl rfl hF hS rfl (ef_qt (q_call fn49 rfl (fun w hS => keyB_ct _ omQ w ) hI)) ?_
          rintro _ _ _ a w ⟨rfl, rfl, rfl⟩ hF hS
          refine ⟨⟨iQ, .inr (hS.k1 (zQ.k.n.n)), .inr hS.k0, trivial⟩, ?_⟩
          refine tQ 5 rfl hF (hS.keep sQ zQ) (q_build1 ty75 2 kQ rfl rfl rfl deQ) fun a hF => ?_
          refine gQ 6 rfl rfl hF hS rfl (ef_bsliceW ty24 ty75 rfl bQ deQ oQ deQ deQ) ?_
          rintro v_24_6 _ _ a w ⟨rfl, rfl⟩ hF hS
          refine ⟨⟨iQ, iQ, .inr (hS.k1 (zQ.k.n.n.n)), .inr hS.k0, trivial⟩, ?_⟩
          refine gQ 7 rfl rfl hF hS rfl (ef_append ty24 ty75 2 rfl rfl rfl (src_row ty24 (k := 0) rfl oQ) bQ rfl deQ) ?_
          rintro v_24_7 _ _ a w ⟨rfl, rfl⟩ hF hS
          refine ⟨⟨iQ, iQ, iQ, iQ, trivial⟩, ?_⟩
          refine tQ 8 rfl hF (hS.keep sQ zQ) (q_fieldAddr ty54 rfl rfl (s' := 0) kQ) fun a hF => ?_
          refine gQ 9 rfl rfl hF hS rfl (ef_store1 ty24 3 rfl rfl rfl (row_one (hS.ow 2 rfl)) (by simp)) ?_
          rintro _ _ _ a w ⟨rfl, rfl, rfl⟩ hF hS
          replace hS : St _ [] [_, _, _, .blk _ _ ([_, _, _, _].set 2 _), _, _] _ := hS
          simp only [sC] at hS
          replace hS := nl0_6 hS
          refine ⟨⟨iQ, iQ, iQ, iQ, iQ, trivial⟩, ?_⟩
          exact goW_done kQ (j2_mk v_24_6 v_24_7 (trivial) (hF.sub (L' := [(6, _), (7, _)]) ⟨rfl, rfl, trivial⟩) hS)
         rintro a w ⟨v_24_6, v_24_7, -, hF, hS⟩
         (try dsimp only at hF hS)
         refine hK5 _ _ ?_
         refine reglS fun K28 hK28 => ?_
         refine lQ hF hS (q0 (q_ld_blkW ty54 3 rfl rfl bQ rfl) <| sq_end) fun a w hF hS => ?_
         refine eQ hF hS rfl (ef_storeW ty54 4 rfl rfl rfl rfl bQ (oc_cons rfl (oc_cons rfl (oc_cons (row_one (hS.ow 2 rfl)) (oc_cons (row_one (hS.ow 1 rfl)) oc_nil)))) bQ) ?_
         rintro _ _ _ a w ⟨rfl, rfl, rfl⟩ hF hS
         replace hS := nl0_6 hS
         refine wpList_nil (hK28 _ _ ?_)
         refine wp_ret ?_
         have hnb := Mk.bent_sm hsm how b
         rw [show Mk.bent ⟨qf, qs, ql, qd⟩ how b = ⟨qf, qs, (ql ++ [(Mk.keyB (Gu.arnd b 40), [])]), qd⟩ from by unfold Mk.bent; dsimp only; rw [if_neg hc1, if_neg hc2, if_neg hc3, if_neg hc4, if_neg hc5, if_neg hc7, if_neg hc9, if_pos hc11]] at hnb
         obtain ⟨hn1, hn2, hn3, hn4⟩ := hnb
         dsimp only at hn1 hn2 hn3 hn4
         replace hS := hS.perm P0_1
         obtain ⟨zk, hzk, hS⟩ := St.freezeF (xs := (ql ++ [(Mk.keyB (Gu.arnd b 40), [])])) (hS.rowEq (m' := List.length ((ql ++ [(Mk.keyB (Gu.arnd b 40), [])]))) (cs' := List.flatMap kvC ((ql ++ [(Mk.keyB (Gu.arnd b 40), [])]))) (by rw [List.length_append]; rfl) (by rw [List.flatMap_append]; rfl)) rfl omQ (fun x hx => by have := hn3 x hx; exact ⟨by omega, by omega⟩)
         replace hS : St _ [_] [_, _, _, _, _] _ := hS
         replace hS := hS.perm (.swap _ _ _)
         obtain ⟨zm, hzm, hS⟩ := St.freezeA (m := 16) (l := qd) (hS.rowEq (m' := List.length (qd)) (cs' := List.map vb (List.flatten (qd))) (rfl) (rfl)) rfl omQ (hn4)
         replace hS : St _ [_, _] [_, _, _, _] _ := hS
         replace hS := hS.zone00
         replace hS : St _ [_, _, _] [_, _, _, _] _ := hS
         obtain ⟨zu, hzu, hS⟩ := hS.union
         exact fn_ret (rs := [.cell 6 54]) rfl hF hS (vs := [_]) ⟨⟨_, _, _, _, _, _, _, rfl, List.mem_of_getElem? (i := 2) rfl, ty54, .inl ⟨rfl, bQ, rfl⟩⟩, trivial⟩ (zs' := [zu]) (hs' := []) (List.singleton_sublist.2 (by simp)) zQ (pf_of (q := ⟨qf, qs, (ql ++ [(Mk.keyB (Gu.arnd b 40), [])]), qd⟩) ⟨_, _, zu, rfl, Sl.mono (hzu _ (by simp)) hzk, Sl.mono (hzu _ (by simp)) hzm, rfl, rfl⟩ (by unfold Mk.bent; dsimp only; rw [if_neg hc1, if_neg hc2, if_neg hc3, if_neg hc4, if_neg hc5, if_neg hc7, if_neg hc9, if_pos hc11]))
        ·refine k0 ?_; intro K29 hK29
         refine reg hF hS (q0 (q_eqi rfl rfl) <| aQ rfl <| sq_end) fun a w hF hS => ?_
         refine hK29 _ _ ?_
         refine wp_ifd hF rfl (fun hc12 => ?_) (fun hc12 => ?_)
         ·refine k0 ?_; intro K30 hK30
          refine reg hF hS (q0 (q_fieldAddr ty54 rfl rfl (s' := 0) kQ) <| q0 (q_ld_blk1 ty48 2 rfl rfl rfl rfl) <| q0 (q_len_row ty48 0 rfl rfl) <| q0 (q_gti rfl rfl) <| sq_end) fun a w hF hS => ?_
          refine hK30 _ _ ?_
          refine wp_ifd hF rfl (fun hc13 => ?_) (fun hc13 => ?_)
          ·have hjl : (Gu.arnd b (max (qd.length : Int) 1)).toNat < qd.length := by omega
           have hib := Gu.arnd_range (n := b.tdiv 8) (m := 16) omQ
           have hj16 : (Gu.arnd b (max (qd.length : Int) 1)).toNat * 16 + 16 ≤ qd.length * 16 := by omega
           refine regt 12 mixed kQ hF hS (q0 (q_fieldAddr ty54 rfl rfl (s' := 0) kQ) <| q0 (q_ld_blk1 ty48 2 rfl rfl rfl rfl) <| mQ rfl <| mQ rfl <| q0 (q_quoi' rfl rfl omQ) <| q0 (q_call fn17 rfl (fun w hS => arnd_ct _ _ omQ htd w ) hI) <| q0 (q_idx_row ty48 ty29 0 rfl rfl rfl omQ) <| q0 (q_idx_rowE ty29 ty5 0 rfl rfl rfl omQ omQ) <| q0 (q_ld_row ty5 0 rfl rfl (flat_at hs16 hjl omQ) rfl) <| q0 (q_xorb (q := 1) rfl rfl) <| q0 (q_idx_row ty48 ty29 0 rfl rfl rfl omQ) <| q0 (q_idx_rowE ty29 ty5 0 rfl rfl rfl omQ omQ) <| sq_end) fun a w hF hS => ?_
           refine eQ hF hS rfl (ef_st_cell ty5 0 rfl rfl rfl omQ rfl) ?_
           rintro _ _ _ a w ⟨rfl, rfl, rfl⟩ hF hS
           replace hS := nl0_5 hS
           refine wpList_nil (hK5 _ _ ?_)
           refine reglS fun K31 hK31 => ?_
           refine lQ hF hS (q0 (q_ld_blkW ty54 2 rfl rfl bQ rfl) <| sq_end) fun a w hF hS => ?_
           refine eQ hF hS rfl (ef_storeW ty54 3 rfl rfl rfl rfl bQ (oc_cons rfl (oc_cons rfl (oc_cons (row_one (hS.ow 1 rfl)) (oc_cons (row_one (hS.ow 0 rfl)) oc_nil)))) bQ) ?_
           rintro _ _ _ a w ⟨rfl, rfl, rfl⟩ hF hS
           replace hS := nl0_5 hS
           refine wpList_nil (hK31 _ _ ?_)
           refine wp_ret ?_
           have hnb := Mk.bent_sm hsm how b
           rw [show Mk.bent ⟨qf, qs, ql, qd⟩ how b = ⟨qf, qs, ql, (qd.set (Gu.arnd b (max (qd.length : Int) 1)).toNat ((qd.getD (Gu.arnd b (max (qd.length : Int) 1)).toNat []).set (Gu.arnd (b.tdiv 8) 16).toNat ((qd.getD (Gu.arnd b (max (qd.length : Int) 1)).toNat []).getD (Gu.arnd (b.tdiv 8) 16).toNat 0 ^^^ 1)))⟩ from by unfold Mk.bent; dsimp only; rw [if_neg hc1, if_neg hc2, if_neg hc3, if_neg hc4, if_neg hc5, if_neg hc7, if_neg hc9, if_neg hc11, if_pos hc12, if_pos (show 0 < qd.length by omega)]; rfl] at hnb
           obtain ⟨hn1, hn2, hn3, hn4⟩ := hnb
           dsimp only at hn1 hn2 hn3 hn4
           replace hS := hS.perm (.swap _ _ _)
           obtain ⟨zk, hzk, hS⟩ := St.freezeF (xs := ql) (hS.rowEq (m' := List.length (ql)) (cs' := List.flatMap kvC (ql)) (rfl) (rfl)) rfl omQ (fun x hx => by have := hn3 x hx; exact ⟨by omega, by omega⟩)
           replace hS := nl1_4 hS
           obtain ⟨zm, hzm, hS⟩ := St.freezeA (m := 16) (l := (qd.set (Gu.arnd b (max (qd.length : Int) 1)).toNat ((qd.getD (Gu.arnd b (max (qd.length : Int) 1)).toNat []).set (Gu.arnd (b.tdiv 8) 16).toNat ((qd.getD (Gu.arnd b (max (qd.length : Int) 1)).toNat []).getD (Gu.arnd (b.tdiv 8) 16).toNat 0 ^^^ 1)))) (hS.rowEq (m' := List.length ((qd.set (Gu.arnd b (max (qd.length : Int) 1)).toNat ((qd.getD (Gu.arnd b (max (qd.length : Int) 1)).toNat []).set (Gu.arnd (b.tdiv 8) 16).toNat ((qd.getD (Gu.arnd b (max (qd.length : Int) 1)).toNat []).getD (Gu.arnd (b.tdiv 8) 16).toNat 0 ^^^ 1))))) (cs' := List.map vb (List.flatten ((qd.set (Gu.arnd b (max (qd.length : Int) 1)).toNat ((qd.getD (Gu.arnd b (max (qd.length : Int) 1)).toNat []).set (Gu.arnd (b.tdiv 8) 16).toNat ((qd.getD (Gu.arnd b (max (qd.length : Int) 1)).toNat []).getD (Gu.arnd (b.tdiv 8) 16).toNat 0 ^^^ 1)))))) (by rw [List.length_set]) (flat_set1 hs16 hjl omQ _)) rfl omQ (hn4)
           replace hS := nl2_3 hS
           replace hS := hS.zone00
           replace hS := nl3_3 hS
           obtain ⟨zu, hzu, hS⟩ := hS.union
           exact fn_ret (rs := [.cell 6 54]) rfl hF hS (vs := [_]) ⟨⟨_, _, _, _, _, _, _, rfl, List.mem_of_getElem? (i := 1) rfl, ty54, .inl ⟨rfl, bQ, rfl⟩⟩, trivial⟩ (zs' := [zu]) (hs' := []) (List.singleton_sublist.2 (by simp)) zQ (pf_of (q := ⟨qf, qs, ql, (qd.set (Gu.arnd b (max (qd.length : Int) 1)).toNat ((qd.getD (Gu.arnd b (max (qd.length : Int) 1)).toNat []).set (Gu.arnd (b.tdiv 8) 16).toNat ((qd.getD (Gu.arnd b (max (qd.length : Int) 1)).toNat []).getD (Gu.arnd (b.tdiv 8) 16).toNat 0 ^^^ 1)))⟩) ⟨_, _, zu, rfl, Sl.mono (hzu _ (by simp)) hzk, Sl.mono (hzu _ (by simp)) hzm, rfl, rfl⟩ (by unfold Mk.bent; dsimp only; rw [if_neg hc1, if_neg hc2, if_neg hc3, if_neg hc4, if_neg hc5, if_neg hc7, if_neg hc9, if_neg hc11, if_pos hc12, if_pos (show 0 < qd.length by omega)]; rfl))
          ·refine wp_skip ?_
           refine hK5 _ _ ?_
           refine reglS fun K32 hK32 => ?_
           refine lQ hF hS (q0 (q_ld_blkW ty54 2 rfl rfl bQ rfl) <| sq_end) fun a w hF hS => ?_
           refine eQ hF hS rfl (ef_storeW ty54 3 rfl rfl rfl rfl bQ (oc_cons rfl (oc_cons rfl (oc_cons (row_one (hS.ow 1 rfl)) (oc_cons (row_one (hS.ow 0 rfl)) oc_nil)))) bQ) ?_
           rintro _ _ _ a w ⟨rfl, rfl, rfl⟩ hF hS
           replace hS := nl0_5 hS
           refine wpList_nil (hK32 _ _ ?_)
           refine wp_ret ?_
           have hnb := Mk.bent_sm hsm how b
           rw [show Mk.bent ⟨qf, qs, ql, qd⟩ how b = ⟨qf, qs, ql, qd⟩ from by unfold Mk.bent; dsimp only; rw [if_neg hc1, if_neg hc2, if_neg hc3, if_neg hc4, if_neg hc5, if_neg hc7, if_neg hc9, if_neg hc11, if_pos hc12, if_neg (show ¬ 0 < qd.length by omega)]] at hnb
           obtain ⟨hn1, hn2, hn3, hn4⟩ := hnb
           dsimp only at hn1 hn2 hn3 hn4
           replace hS := hS.perm (.swap _ _ _)
           obtain ⟨zk, hzk, hS⟩ := St.freezeF (xs := ql) (hS.rowEq (m' := List.length (ql)) (cs' := List.flatMap kvC (ql)) (rfl) (rfl)) rfl omQ (fun x hx => by have := hn3 x hx; exact ⟨by omega, by omega⟩)
           replace hS := nl1_4 hS
           obtain ⟨zm, hzm, hS⟩ := St.freezeA (m := 16) (l := qd) (hS.rowEq (m' := List.length (qd)) (cs' := List.map vb (List.flatten (qd))) (rfl) (rfl)) rfl omQ (hn4)
           replace hS := nl2_3 hS
           replace hS := hS.zone00
           replace hS := nl3_3 hS
           obtain ⟨zu, hzu, hS⟩ := hS.union
           exact fn_ret (rs := [.cell 6 54]) rfl hF hS (vs := [_]) ⟨⟨_, _, _, _, _, _, _, rfl, List.mem_of_getElem? (i := 1) rfl, ty54, .inl ⟨rfl, bQ, rfl⟩⟩, trivial⟩ (zs' := [zu]) (hs' := []) (List.singleton_sublist.2 (by simp)) zQ (pf_of (q := ⟨qf, qs, ql, qd⟩) ⟨_, _, zu, rfl, Sl.mono (hzu _ (by simp)) hzk, Sl.mono (hzu _ (by simp)) hzm, rfl, rfl⟩ (by unfold Mk.bent; dsimp only; rw [if_neg hc1, if_neg hc2, if_neg hc3, if_neg hc4, if_neg hc5, if_neg hc7, if_neg hc9, if_neg hc11, if_pos hc12, if_neg (show ¬ 0 < qd.length by omega)]))
         ·refine k0 ?_; intro K33 hK33
          refine reg hF hS (q0 (q_eqi rfl rfl) <| aQ rfl <| sq_end) fun a w hF hS => ?_
          refine hK33 _ _ ?_
          refine wp_ifd hF rfl (fun hc14 => ?_) (fun hc14 => ?_)
          ·refine k0 ?_; intro K34 hK34
           refine reg hF hS (q0 (q_fieldAddr ty54 rfl rfl (s' := 0) kQ) <| q0 (q_ld_blk1 ty48 2 rfl rfl rfl rfl) <| q0 (q_len_row ty48 0 rfl rfl) <| q0 (q_gti rfl rfl) <| sq_end) fun a w hF hS => ?_
           refine hK34 _ _ ?_
           refine wp_ifd hF rfl (fun hc15 => ?_) (fun hc15 => ?_)
           ·have hjl : (Gu.arnd b (max (qd.length : Int) 1)).toNat < qd.length := by omega
            have hib := Gu.arnd_range (n := b.tdiv 8) (m := 16) omQ
            have hj16 : (Gu.arnd b (max (qd.length : Int) 1)).toNat * 16 + 16 ≤ qd.length * 16 := by omega
            refine regt 9 mixed kQ hF hS (q0 (q_fieldAddr ty54 rfl rfl (s' := 0) kQ) <| q0 (q_ld_blk1 ty48 2 rfl rfl rfl rfl) <| mQ rfl <| q0 (q_slrowS_hi ty48 ty29 0 rfl rfl rfl omQ) <| q0 (q_fieldAddr ty54 rfl rfl (s' := 0) kQ) <| q0 (q_ld_blk1 ty48 2 rfl rfl rfl rfl) <| mQ rfl <| pQ rfl rfl <| q0 (q_slrowS_lo ty48 ty29 0 rfl rfl rfl omQ) <| sq_end) fun a w hF hS => ?_
            refine eQ hF hS rfl (ef_append_cutS ty48 ty29 0 rfl rfl omQ rfl omQ omQ oQ rfl deQ) ?_
            rintro v6 _ _ a w ⟨rfl, rfl⟩ hF hS
            replace hS := nl0_5 hS
            refine lQ hF hS (q0 (q_fieldAddr ty54 rfl rfl (s' := 0) kQ) <| sq_end) fun a w hF hS => ?_
            refine eQ hF hS rfl (ef_store1 ty48 2 rfl rfl rfl (row_one (hS.ow 0 rfl)) (by simp)) ?_
            rintro _ _ _ a w ⟨rfl, rfl, rfl⟩ hF hS
            replace hS : St _ [] [_, _, .blk _ _ ([_, _, _, _].set 3 _), _, _] _ := hS
            simp only [sC] at hS
            replace hS := nl0_5 hS
            refine wpList_nil (hK5 _ _ ?_)
            refine reglS fun K35 hK35 => ?_
            refine lQ hF hS (q0 (q_ld_blkW ty54 2 rfl rfl bQ rfl) <| sq_end) fun a w hF hS => ?_
            refine eQ hF hS rfl (ef_storeW ty54 3 rfl rfl rfl rfl bQ (oc_cons rfl (oc_cons rfl (oc_cons (row_one (hS.ow 1 rfl)) (oc_cons (row_one (hS.ow 0 rfl)) oc_nil)))) bQ) ?_
            rintro _ _ _ a w ⟨rfl, rfl, rfl⟩ hF hS
            replace hS := nl0_5 hS
            refine wpList_nil (hK35 _ _ ?_)
            refine wp_ret ?_
            have hnb := Mk.bent_sm hsm how b
            rw [show Mk.bent ⟨qf, qs, ql, qd⟩ how b = ⟨qf, qs, ql, (qd.take (Gu.arnd b (max (qd.length : Int) 1)).toNat ++ qd.drop ((Gu.arnd b (max (qd.length : Int) 1)).toNat + 1))⟩ from by unfold Mk.bent; dsimp only; rw [if_neg hc1, if_neg hc2, if_neg hc3, if_neg hc4, if_neg hc5, if_neg hc7, if_neg hc9, if_neg hc11, if_neg hc12, if_pos hc14, if_pos (show 0 < qd.length by omega)]; rfl] at hnb
            obtain ⟨hn1, hn2, hn3, hn4⟩ := hnb
            dsimp only at hn1 hn2 hn3 hn4
            replace hS := hS.perm (.swap _ _ _)
            obtain ⟨zk, hzk, hS⟩ := St.freezeF (xs := ql) (hS.rowEq (m' := List.length (ql)) (cs' := List.flatMap kvC (ql)) (rfl) (rfl)) rfl omQ (fun x hx => by have := hn3 x hx; exact ⟨by omega, by omega⟩)
            replace hS := nl1_4 hS
            obtain ⟨zm, hzm, hS⟩ := St.freezeA (m := 16) (l := (qd.take (Gu.arnd b (max (qd.length : Int) 1)).toNat ++ qd.drop ((Gu.arnd b (max (qd.length : Int) 1)).toNat + 1))) (hS.rowEq (m' := List.length ((qd.take (Gu.arnd b (max (qd.length : Int) 1)).toNat ++ qd.drop ((Gu.arnd b (max (qd.length : Int) 1)).toNat + 1)))) (cs' := List.map vb (List.flatten ((qd.take (Gu.arnd b (max (qd.length : Int) 1)).toNat ++ qd.drop ((Gu.arnd b (max (qd.length : Int) 1)).toNat + 1))))) (by rw [List.length_append, List.length_take, List.length_drop]; omega) (flat_cut hs16 _)) rfl omQ (hn4)
            replace hS := nl2_3 hS
            replace hS := hS.zone00
            replace hS := nl3_3 hS
            obtain ⟨zu, hzu, hS⟩ := hS.union
            exact fn_ret (rs := [.cell 6 54]) rfl hF hS (vs := [_]) ⟨⟨_, _, _, _, _, _, _, rfl, List.mem_of_getElem? (i := 1) rfl, ty54, .inl ⟨rfl, bQ, rfl⟩⟩, trivial⟩ (zs' := [zu]) (hs' := []) (List.singleton_sublist.2 (by simp)) zQ (pf_of (q := ⟨qf, qs, ql, (qd.take (Gu.arnd b (max (qd.length : Int) 1)).toNat ++ qd.drop ((Gu.arnd b (max (qd.length : Int) 1)).toNat + 1))⟩) ⟨_, _, zu, rfl, Sl.mono (hzu _ (by simp)) hzk, Sl.mono (hzu _ (by simp)) hzm, rfl, rfl⟩ (by unfold Mk.bent; dsimp only; rw [if_neg hc1, if_neg hc2, if_neg hc3, if_neg hc4, if_neg hc5, if_neg hc7, if_neg hc9, if_neg hc11, if_neg hc12, if_pos hc14, if_pos (show 0 < qd.length by omega)]; rfl))
           ·refine wp_skip ?_
            refine hK5 _ _ ?_
            refine reglS fun K36 hK36 => ?_
            refine lQ hF hS (q0 (q_ld_blkW ty54 2 rfl rfl bQ rfl) <| sq_end) fun a w hF hS => ?_
            refine eQ hF hS rfl (ef_storeW ty54 3 rfl rfl rfl rfl bQ (oc_cons rfl (oc_cons rfl (oc_cons (row_one (hS.ow 1 rfl)) (oc_cons (row_one (hS.ow 0 rfl)) oc_nil)))) bQ) ?_
            rintro _ _ _ a w ⟨rfl, rfl, rfl⟩ hF hS
            replace hS := nl0_5 hS
            refine wpList_nil (hK36 _ _ ?_)
            refine wp_ret ?_
            have hnb := Mk.bent_sm hsm how b
            rw [show Mk.bent ⟨qf, qs, ql, qd⟩ how b = ⟨qf, qs, ql, qd⟩ from by unfold Mk.bent; dsimp only; rw [if_neg hc1, if_neg hc2, if_neg hc3, if_neg hc4, if_neg hc5, if_neg hc7, if_neg hc9, if_neg hc11, if_neg hc12, if_pos hc14, if_neg (show ¬ 0 < qd.length by omega)]] at hnb
            obtain ⟨hn1, hn2, hn3, hn4⟩ := hnb
            dsimp only at hn1 hn2 hn3 hn4
            replace hS := hS.perm (.swap _ _ _)
            obtain ⟨zk, hzk, hS⟩ := St.freezeF (xs := ql) (hS.rowEq (m' := List.length (ql)) (cs' := List.flatMap kvC (ql)) (rfl) (rfl)) rfl omQ (fun x hx => by have := hn3 x hx; exact ⟨by omega, by omega⟩)
            replace hS := nl1_4 hS
            obtain ⟨zm, hzm, hS⟩ := St.freezeA (m := 16) (l := qd) (hS.rowEq (m' := List.length (qd)) (cs' := List.map vb (List.flatten (qd))) (rfl) (rfl)) rfl omQ (hn4)
            replace hS := nl2_3 hS
            replace hS := hS.zone00
            replace hS := nl3_3 hS
            obtain ⟨zu, hzu, hS⟩ := hS.union
            exact fn_ret (rs := [.cell 6 54]) rfl hF hS (vs := [_]) ⟨⟨_, _, _, _, _, _, _, rfl, List.mem_of_getElem? (i := 1) rfl, ty54, .inl ⟨rfl, bQ, rfl⟩⟩, trivial⟩ (zs' := [zu]) (hs' := []) (List.singleton_sublist.2 (by simp)) zQ (pf_of (q := ⟨qf, qs, ql, qd⟩) ⟨_, _, zu, rfl, Sl.mono (hzu _ (by simp)) hzk, Sl.mono (hzu _ (by simp)) hzm, rfl, rfl⟩ (by unfold Mk.bent; dsimp only; rw [if_neg hc1, if_neg hc2, if_neg hc3, if_neg hc4, if_neg hc5, if_neg hc7, if_neg hc9, if_neg hc11, if_neg hc12, if_pos hc14, if_neg (show ¬ 0 < qd.length by omega)]))
          ·refine regl ?_
           refine lQ hF hS (q0 (q_fieldAddr ty54 rfl rfl (s' := 0) kQ) <| q0 (q_ld_blk1 ty48 2 rfl rfl rfl rfl) <| q0 (q_build rfl (run_build_arr ty29 ty5 rfl)) <| sq_end) fun a w hF hS => ?_
           refine eQ hF hS rfl (ef_bsliceW ty48 ty29 rfl bQ deQ oQ deQ deQ) ?_
           rintro v7 _ _ a w ⟨rfl, rfl⟩ hF hS
           replace hS := nl0_6 hS
           refine eQ hF hS rfl (ef_append ty48 ty29 1 rfl rfl rfl (src_row ty48 (k := 0) rfl oQ) bQ rfl deQ) ?_
           rintro v9 _ _ a w ⟨rfl, rfl⟩ hF hS
           replace hS := nl0_6 hS
           refine lQ hF hS (q0 (q_fieldAddr ty54 rfl rfl (s' := 0) kQ) <| sq_end) fun a w hF hS => ?_
           refine eQ hF hS rfl (ef_store1 ty48 3 rfl rfl rfl (row_one (hS.ow 1 rfl)) (by simp)) ?_
           rintro _ _ _ a w ⟨rfl, rfl, rfl⟩ hF hS
           replace hS : St _ [] [_, _, _, .blk _ _ ([_, _, _, _].set 3 _), _, _] _ := hS
           simp only [sC] at hS
           replace hS := nl0_6 hS
           refine wpList_nil (hK5 _ _ ?_)
           refine reglS fun K37 hK37 => ?_
           refine lQ hF hS (q0 (q_ld_blkW ty54 3 rfl rfl bQ rfl) <| sq_end) fun a w hF hS => ?_
           refine eQ hF hS rfl (ef_storeW ty54 4 rfl rfl rfl rfl bQ (oc_cons rfl (oc_cons rfl (oc_cons (row_one (hS.ow 2 rfl)) (oc_cons (row_one (hS.ow 1 rfl)) oc_nil)))) bQ) ?_
           rintro _ _ _ a w ⟨rfl, rfl, rfl⟩ hF hS
           replace hS := nl0_6 hS
           refine wpList_nil (hK37 _ _ ?_)
           refine wp_ret ?_
           have hnb := Mk.bent_sm hsm how b
           rw [show Mk.bent ⟨qf, qs, ql, qd⟩ how b = ⟨qf, qs, ql, (qd ++ [Mk.one1])⟩ from by unfold Mk.bent; dsimp only; rw [if_neg hc1, if_neg hc2, if_neg hc3, if_neg hc4, if_neg hc5, if_neg hc7, if_neg hc9, if_neg hc11, if_neg hc12, if_neg hc14]] at hnb
           obtain ⟨hn1, hn2, hn3, hn4⟩ := hnb
           dsimp only at hn1 hn2 hn3 hn4
           replace hS := hS.perm P0_1
           obtain ⟨zk, hzk, hS⟩ := St.freezeF (xs := ql) (hS.rowEq (m' := List.length (ql)) (cs' := List.flatMap kvC (ql)) (rfl) (rfl)) rfl omQ (fun x hx => by have := hn3 x hx; exact ⟨by omega, by omega⟩)
           replace hS : St _ [_] [_, _, _, _, _] _ := hS
           replace hS := hS.perm (.swap _ _ _)
           obtain ⟨zm, hzm, hS⟩ := St.freezeA (m := 16) (l := (qd ++ [Mk.one1])) (hS.rowEq (m' := List.length ((qd ++ [Mk.one1]))) (cs' := List.map vb (List.flatten ((qd ++ [Mk.one1])))) (by rw [List.length_append]; rfl) (by rw [List.flatten_append, List.map_append]; rfl)) rfl omQ (hn4)
           replace hS : St _ [_, _] [_, _, _, _] _ := hS
           replace hS := hS.zone00
           replace hS : St _ [_, _, _] [_, _, _, _] _ := hS
           obtain ⟨zu, hzu, hS⟩ := hS.union
           exact fn_ret (rs := [.cell 6 54]) rfl hF hS (vs := [_]) ⟨⟨_, _, _, _, _, _, _, rfl, List.mem_of_getElem? (i := 2) rfl, ty54, .inl ⟨rfl, bQ, rfl⟩⟩, trivial⟩ (zs' := [zu]) (hs' := []) (List.singleton_sublist.2 (by simp)) zQ (pf_of (q := ⟨qf, qs, ql, (qd ++ [Mk.one1])⟩) ⟨_, _, zu, rfl, Sl.mono (hzu _ (by simp)) hzk, Sl.mono (hzu _ (by simp)) hzm, rfl, rfl⟩ (by unfold Mk.bent; dsimp only; rw [if_neg hc1, if_neg hc2, if_neg hc3, if_neg hc4, if_neg hc5, if_neg hc7, if_neg hc9, if_neg hc11, if_neg hc12, if_neg hc14]))
end
end Go.Proofs.YtdojfnigffeblaaDoor
