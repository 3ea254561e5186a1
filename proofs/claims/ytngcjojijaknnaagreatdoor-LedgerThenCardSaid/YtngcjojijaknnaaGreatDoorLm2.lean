/- A text of a proof over this seat: walks over the program's functions and the plain laws that they need. -/
import Derived.Test.YtngcjojijaknnaaGreatDoorLm1
import Derived.Test.YtngcjojijaknnaaGreatDoorFwD
import Derived.Test.YtngcjojijaknnaaGreatDoorFwB
set_option linter.all false
namespace Go.Proofs.YtngcjojijaknnaaGreatDoor
open Go.Fw
theorem ty197 : Tf Tryz.prog 197 (.func #[3, 3] #[62] false) 1 8 (Value.nilFunc) := ⟨Tryz.underlying197, by kernel_rfl⟩
theorem fn75 : FnOk Tryz.prog 75 := ⟨_, Tryz.func75, rfl, by kernel_rfl⟩
theorem fn76 : FnOk Tryz.prog 76 := ⟨_, Tryz.func76, rfl, by kernel_rfl⟩
theorem fn77 : FnOk Tryz.prog 77 := ⟨_, Tryz.func77, rfl, by kernel_rfl⟩
theorem fn115 : FnOk Tryz.prog 115 := ⟨_, Tryz.func115, rfl, by kernel_rfl⟩
theorem fn116 : FnOk Tryz.prog 116 := ⟨_, Tryz.func116, rfl, by kernel_rfl⟩
theorem fn117 : FnOk Tryz.prog 117 := ⟨_, Tryz.func117, rfl, by kernel_rfl⟩
theorem fn118 : FnOk Tryz.prog 118 := ⟨_, Tryz.func118, rfl, by kernel_rfl⟩
theorem fn119 : FnOk Tryz.prog 119 := ⟨_, Tryz.func119, rfl, by kernel_rfl⟩

attribute [local irreducible] Sha.sum Sha.mac Sha.ofD Wi.int Wi.ints Wi.bytes Sha.inp Mk.half Lib.compareBytes

set_option maxRecDepth 4000 in
set_option maxHeartbeats 2000000 in
theorem leaf_ct (x : Mk.Lf) (hx : x.1.length < 1048576 ∧ x.2.length < 1048576) (w : World) {fz1 : Nat × Nat} {bt1 : TypeId} (hg1 : w.heap[1]? = some (.cells (Sha.kc.map vw).toArray bt1 fz1)) : Ct Tryz.prog 117 [.agg [vs x.1, vs x.2].toArray] w (fun r _ _ => r = .agg ((Mk.leafD x).map vb).toArray) := by
 refine fn_enter Tryz.func117 rfl Tryz.ntmps117 (Nat.le_of_ble_eq_true rfl) fun a hF hS => ?_
 have hol := Sha.ofD_len 3 [x.1, x.2]
 refine wp_seq_k ?_; intro K1 hK1
 refine regl ?_
 refine wpl_ef hF hS rfl (ef_boxA rfl) ?_
 clear hF hS; rintro _ _ _ a w ⟨b1, rfl, rfl, rfl⟩ hF hS
 refine wpl_ef hF hS rfl (ef_allocA ty62) ?_
 clear hF hS; rintro _ _ _ a w ⟨b2, rfl, rfl, rfl⟩ hF hS
 rw [show List.replicate 16 (Value.int .u8 0) = (List.replicate 16 (0 : UInt8)).map vb from by rw [List.map_replicate] <;> rfl] at hS
 refine wpList_nil ?_
 refine hK1 _ _ ?_
 clear hK1
 refine wp_seq_k ?_; intro K2 hK2
 refine regl ?_
 refine wpl_sq hF hS (sq rfl (q_fieldAddr ty142 rfl rfl (s' := 0) kQ) <|
   sq rfl (q_ld_blk1 ty9 1 rfl rfl rfl rfl) <|
   sq rfl (q_fieldAddr ty142 rfl rfl (s' := 0) kQ) <|
   sq rfl (q_ld_blk1 ty9 1 rfl rfl rfl rfl) <|
   sq_end) ?_
 clear hF hS; intro a w hF hS
 refine wpl_ef hF hS rfl (ef_bsliceA ty40 ty9 rfl rfl oQ (by decide) rfl rfl) ?_
 clear hF hS; rintro v3 _ _ a w ⟨rfl, rfl⟩ hF hS
 replace hS : St _ [] [_, _, _] _ := hS
 refine wpl_sq hF hS (sq rfl (q_call fn115 rfl (fun w hS => of_ct _ _ _ (by simp; omega) (by simp) w (own_slV (f := vs) (xs := [x.1, x.2]) (hS.own _ (List.mem_of_getElem? (i := 0) rfl)).1 (by simp; omega) rfl (by first | decide | omega)) (hS.ext _ _ hg1)) (fun _ _ _ h => h)) <|
   sq_end) ?_
 clear hF hS; intro a w hF hS
 refine wpl_ef hF hS rfl (ef_storeW ty62 1 rfl rfl rfl rfl bQ oQ bQ) ?_
 clear hF hS; rintro _ _ _ a w ⟨rfl, rfl, rfl⟩ hF hS
 replace hS : St _ [] [_, _, _] _ := hS
 refine wpList_nil ?_
 refine hK2 _ _ ?_
 clear hK2
 refine wp_ret ?_
 exact fn_ret (rs := [.cell 2 62]) rfl hF hS (vs := [_]) ⟨⟨_, _, _, _, _, _, _, rfl, List.mem_of_getElem? (i := 1) rfl, ty62, .inl ⟨rfl, bQ, rfl⟩⟩, trivial⟩ zQ zQ (rfl)

set_option maxRecDepth 4000 in
set_option maxHeartbeats 2000000 in
theorem node_ct (da db : List UInt8) (ha : da.length = 16) (hb : db.length = 16) (w : World) {fz1 : Nat × Nat} {bt1 : TypeId} (hg1 : w.heap[1]? = some (.cells (Sha.kc.map vw).toArray bt1 fz1)) : Ct Tryz.prog 119 [.agg ((da).map vb).toArray, .agg ((db).map vb).toArray] w (fun r _ _ => r = .agg ((Mk.nodeD da db).map vb).toArray) := by
 refine fn_enter Tryz.func119 rfl Tryz.ntmps119 (Nat.le_of_ble_eq_true rfl) fun a hF hS => ?_
 have hol := Sha.ofD_len 4 [da, db]
 refine wp_seq_k ?_; intro K1 hK1
 refine regl ?_
 refine wpl_ef hF hS rfl (ef_boxA rfl) ?_
 clear hF hS; rintro _ _ _ a w ⟨b1, rfl, rfl, rfl⟩ hF hS
 refine wpl_ef hF hS rfl (ef_boxA rfl) ?_
 clear hF hS; rintro _ _ _ a w ⟨b2, rfl, rfl, rfl⟩ hF hS
 refine wpl_ef hF hS rfl (ef_allocA ty62) ?_
 clear hF hS; rintro _ _ _ a w ⟨b3, rfl, rfl, rfl⟩ hF hS
 rw [show List.replicate 16 (Value.int .u8 0) = (List.replicate 16 (0 : UInt8)).map vb from by rw [List.map_replicate] <;> rfl] at hS
 refine wpList_nil ?_
 refine hK1 _ _ ?_
 clear hK1
 refine wp_seq_k ?_; intro K2 hK2
 refine regt 4 mixed kQ hF hS (sq rfl (q_sla ty62 ty5 rfl) <|
   sq rfl (q_b2s_blkM ty25 ty9 ty5 2 rfl rfl bQ) <|
   sq rfl (q_sla ty62 ty5 rfl) <|
   sq rfl (q_b2s_blkM ty25 ty9 ty5 1 rfl rfl bQ) <|
   sq_end) ?_
 clear hF hS; intro a w hF hS
 refine wpl_ef hF hS rfl (ef_bsliceA ty40 ty9 rfl rfl oQ (by decide) rfl rfl) ?_
 clear hF hS; rintro v4 _ _ a w ⟨rfl, rfl⟩ hF hS
 replace hS : St _ [] [_, _, _, _] _ := hS
 refine wpl_sq hF hS (sq rfl (q_call fn115 rfl (fun w hS => of_ct _ _ _ (by simp; omega) (by simp) w (own_slV (f := vs) (xs := [da, db]) (hS.own _ (List.mem_of_getElem? (i := 0) rfl)).1 (by simp; omega) rfl (by first | decide | omega)) (hS.ext _ _ hg1)) (fun _ _ _ h => h)) <|
   sq_end) ?_
 clear hF hS; intro a w hF hS
 refine wpl_ef hF hS rfl (ef_storeW ty62 1 rfl rfl rfl rfl bQ oQ bQ) ?_
 clear hF hS; rintro _ _ _ a w ⟨rfl, rfl, rfl⟩ hF hS
 replace hS : St _ [] [_, _, _, _] _ := hS
 refine wpList_nil ?_
 refine hK2 _ _ ?_
 clear hK2
 refine wp_ret ?_
 exact fn_ret (rs := [.cell 4 62]) rfl hF hS (vs := [_]) ⟨⟨_, _, _, _, _, _, _, rfl, List.mem_of_getElem? (i := 1) rfl, ty62, .inl ⟨rfl, bQ, rfl⟩⟩, trivial⟩ zQ zQ (rfl)

set_option maxRecDepth 4000 in
set_option maxHeartbeats 2000000 in
theorem root_ct (n : Int) (d : List UInt8) (hd : d.length = 16) (hn : 0 ≤ n ∧ n ≤ 9223372036854775807) (w : World) {fz1 : Nat × Nat} {bt1 : TypeId} (hg1 : w.heap[1]? = some (.cells (Sha.kc.map vw).toArray bt1 fz1)) : Ct Tryz.prog 76 [vi n, .agg ((d).map vb).toArray] w (fun r _ _ => r = .agg ((Mk.rootD n.toNat d).map vb).toArray) := by
 refine fn_enter Tryz.func76 rfl Tryz.ntmps76 (Nat.le_of_ble_eq_true rfl) fun a hF hS => ?_
 have hol := Sha.ofD_len 4 [Wi.int n, d]
 have hol0 := Sha.ofD_len 4 [Wi.int 0]
 have hil := Wi.int_len9 n
 have hil0 := Wi.int_len9 0
 refine wp_seq_k ?_; intro K1 hK1
 refine regl ?_
 refine wpl_ef hF hS rfl (ef_boxA rfl) ?_
 clear hF hS; rintro _ _ _ a w ⟨b1, rfl, rfl, rfl⟩ hF hS
 refine wpl_ef hF hS rfl (ef_allocA ty62) ?_
 clear hF hS; rintro _ _ _ a w ⟨b2, rfl, rfl, rfl⟩ hF hS
 rw [show List.replicate 16 (Value.int .u8 0) = (List.replicate 16 (0 : UInt8)).map vb from by rw [List.map_replicate] <;> rfl] at hS
 refine wpList_nil ?_
 refine hK1 _ _ ?_
 clear hK1
 refine wp_seq_k ?_; intro K2 hK2
 refine wp_seq_k ?_; intro K3 hK3
 refine reg hF hS (sq rfl (q_move rfl) <|
   sq rfl (q_eqi rfl rfl) <|
   sq_end) ?_
 clear hF hS; intro a w hF hS
 refine hK3 _ _ ?_
 clear hK3
 refine wp_ifd hF rfl (fun hc1 => ?_) (fun hc1 => ?_)
 ·refine wp_seq_k ?_; intro K4 hK4
  refine regl ?_
  refine wpl_ef hF hS rfl (ef_call fn57 rfl (fun w hS => wint_ct _ w )) ?_
  clear hF hS; rintro v3 _ _ a w ⟨_, _, rfl, rfl, rfl, rfl⟩ hF hS
  replace hS : St _ [] [_, _, _] _ := hS
  refine wpl_sq hF hS (sq rfl (q_b2s_row ty25 ty9 ty5 0 rfl rfl) <|
    sq_end) ?_
  clear hF hS; intro a w hF hS
  refine wpl_ef hF hS rfl (ef_bsliceA ty40 ty9 rfl rfl oQ (by decide) rfl rfl) ?_
  clear hF hS; rintro v5 _ _ a w ⟨rfl, rfl⟩ hF hS
  replace hS : St _ [] [_, _, _, _] _ := hS
  refine wpl_sq hF hS (sq rfl (q_call fn115 rfl (fun w hS => of_ct _ _ _ (by simp; omega) (by simp) w (own_slV (f := vs) (xs := [Wi.int 0]) (hS.own _ (List.mem_of_getElem? (i := 0) rfl)).1 (by simp; omega) rfl (by first | decide | omega)) (hS.ext _ _ hg1)) (fun _ _ _ h => h)) <|
    sq_end) ?_
  clear hF hS; intro a w hF hS
  refine wpl_ef hF hS rfl (ef_storeW ty62 2 rfl rfl rfl rfl bQ oQ bQ) ?_
  clear hF hS; rintro _ _ _ a w ⟨rfl, rfl, rfl⟩ hF hS
  replace hS : St _ [] [_, _, _, _] _ := hS
  refine wpList_nil ?_
  refine hK4 _ _ ?_
  clear hK4
  refine wp_ret ?_
  exact fn_ret (rs := [.cell 4 62]) rfl hF hS (vs := [_]) ⟨⟨_, _, _, _, _, _, _, rfl, List.mem_of_getElem? (i := 2) rfl, ty62, .inl ⟨rfl, bQ, rfl⟩⟩, trivial⟩ zQ zQ (by unfold Mk.rootD; rw [if_pos (by omega)])
 ·refine wp_skip ?_
  refine hK2 _ _ ?_
  clear hK2
  refine wp_seq_k ?_; intro K5 hK5
  revert hS; revert hF; apply regJ (J := J2 (α0 := Value) (α1 := Value) 18 _ _ _ _ _) #[false, false, false, false, false, false, false, false] 8 mixed rfl rfl
  ·intro w hF hS
   refine goW_take 0 _ rfl kQ rfl hF (hS.keep sQ zQ) (q_move rfl) ?_
   clear hF; intro a hF
   refine goW_take 3 _ rfl kQ rfl hF (hS.keep sQ (sQ.n)) (q_sla ty62 ty5 rfl) ?_
   clear hF; intro a hF
   refine goW_take 4 _ rfl kQ rfl hF (hS.keep sQ (sQ.n)) (q_b2s_blkM ty25 ty9 ty5 0 rfl rfl bQ) ?_
   clear hF; intro a hF
   refine gQ 1 rfl rfl hF hS rfl (ef_call fn57 rfl (fun w hS => wint_ct _ w )) ?_
   clear hF hS; rintro v_3_1 _ _ a w ⟨_, _, rfl, rfl, rfl, rfl⟩ hF hS
   refine ⟨⟨.inr (hS.k1 (sQ.n.n)), .inr (hS.k1 (sQ.n.n)), iQ, trivial⟩, ?_⟩
   refine goW_take 2 _ rfl kQ rfl hF (hS.keep sQ (zQ.k)) (q_b2s_row ty25 ty9 ty5 0 rfl rfl) ?_
   clear hF; intro a hF
   refine gQ 5 rfl rfl hF hS rfl (ef_bsliceA ty40 ty9 rfl rfl oQ (by decide) rfl rfl) ?_
   clear hF hS; rintro v_3_5 _ _ a w ⟨rfl, rfl⟩ hF hS
   refine ⟨⟨iQ, iQ, iQ, iQ, trivial⟩, ?_⟩
   refine gQ 6 rfl rfl hF hS rfl (ef_qt (q_call fn115 rfl (fun w hS => of_ct _ _ _ (by simp; omega) (by simp) w (own_slV (f := vs) (xs := [Wi.int n, d]) (hS.own _ (List.mem_of_getElem? (i := 0) rfl)).1 (by simp; omega) rfl (by first | decide | omega)) (hS.ext _ _ hg1)) (fun _ _ _ h => h))) ?_
   clear hF hS; rintro _ _ _ a w ⟨rfl, rfl, rfl⟩ hF hS
   refine ⟨⟨iQ, iQ, iQ, iQ, trivial⟩, ?_⟩
   refine gQ 7 rfl rfl hF hS rfl (ef_storeW ty62 2 rfl rfl rfl rfl bQ oQ bQ) ?_
   clear hF hS; rintro _ _ _ a w ⟨rfl, rfl, rfl⟩ hF hS
   refine ⟨⟨iQ, iQ, iQ, iQ, trivial⟩, ?_⟩
   exact goW_done kQ (j2_mk v_3_1 v_3_5 (trivial) (hF.sub (L' := [(4, _)]) ⟨rfl, trivial⟩) hS)
  rintro a w ⟨v_3_1, v_3_5, -, hF, hS⟩
  (try dsimp only at hF); (try dsimp only at hS)
  refine hK5 _ _ ?_
  clear hK5
  refine wp_ret ?_
  exact fn_ret (rs := [.cell 4 62]) rfl hF hS (vs := [_]) ⟨⟨_, _, _, _, _, _, _, rfl, List.mem_of_getElem? (i := 2) rfl, ty62, .inl ⟨rfl, bQ, rfl⟩⟩, trivial⟩ zQ zQ (by unfold Mk.rootD; rw [if_neg (by omega), Int.toNat_of_nonneg hn.1])

set_option maxRecDepth 4000 in
set_option maxHeartbeats 2000000 in
theorem dig_step (v : Value) (ls : List Mk.Lf) (e1 e3 : Nat) {bte1 bte3 : TypeId} {fze1 fze3 : Nat × Nat} (hl : ls.length < 1048576) (hx : ∀ x ∈ ls, x.1.length < 1048576 ∧ x.2.length < 1048576) (fz1 : Nat × Nat) (bt1 : TypeId) (f : Nat) (ih : ∀ (lo hi : Int) (n : Nat) (ha : 0 ≤ lo) (hn : hi = lo + n) (hn1 : 1 ≤ n) (hnf : n ≤ f) (han : lo + n ≤ ls.length) (w : World) (hb1 : w.heap[e1]? = some (.cells [v].toArray bte1 fze1)) (hb : Sl encF (ph w) v ls) (hb3 : w.heap[e3]? = some (.cells [.func (.func 116) (List.nil : List Value).toArray [Value.pointer (some ⟨e1, 0, none⟩), Value.pointer (some ⟨e3, 0, none⟩)].toArray].toArray bte3 fze3)) (hg1 : w.heap[1]? = some (.cells (Sha.kc.map vw).toArray bt1 fz1)), Ct Tryz.prog 116 [vi lo, vi hi, .pointer (some ⟨e1, 0, none⟩), .pointer (some ⟨e3, 0, none⟩)] w (fun r _ _ => r = .agg ((Mk.rowD (Mk.sub ls lo.toNat n)).map vb).toArray)) (lo hi : Int) (n : Nat) (ha : 0 ≤ lo) (hn : hi = lo + n) (hn1 : 1 ≤ n) (hnf : n ≤ f + 1) (han : lo + n ≤ ls.length) (w : World) (hb1 : w.heap[e1]? = some (.cells [v].toArray bte1 fze1)) (hb : Sl encF (ph w) v ls) (hb3 : w.heap[e3]? = some (.cells [.func (.func 116) (List.nil : List Value).toArray [Value.pointer (some ⟨e1, 0, none⟩), Value.pointer (some ⟨e3, 0, none⟩)].toArray].toArray bte3 fze3)) (hg1 : w.heap[1]? = some (.cells (Sha.kc.map vw).toArray bt1 fz1)) : Ct Tryz.prog 116 [vi lo, vi hi, .pointer (some ⟨e1, 0, none⟩), .pointer (some ⟨e3, 0, none⟩)] w (fun r _ _ => r = .agg ((Mk.rowD (Mk.sub ls lo.toNat n)).map vb).toArray) := by
 refine fn_enter Tryz.func116 rfl Tryz.ntmps116 (Nat.le_of_ble_eq_true rfl) fun a hF hS => ?_
 have hbl := hb.1
 have hhp := Mk.half_pos n
 have hr1 := Mk.rowD_16 (ls := Mk.sub ls lo.toNat n) (by rw [Mk.sub_len (by omega)]; omega)
 refine wp_seq_k ?_; intro K1 hK1
 refine regl ?_
 refine wpl_ef hF hS rfl (ef_allocA ty62) ?_
 clear hF hS; rintro _ _ _ a w ⟨b1, rfl, rfl, rfl⟩ hF hS
 rw [show List.replicate 16 (Value.int .u8 0) = (List.replicate 16 (0 : UInt8)).map vb from by rw [List.map_replicate] <;> rfl] at hS
 refine wpList_nil ?_
 refine hK1 _ _ ?_
 clear hK1
 refine wp_seq_k ?_; intro K2 hK2
 refine wp_seq_k ?_; intro K3 hK3
 refine reg hF hS (sq rfl (q_move rfl) <|
   sq rfl (q_move rfl) <|
   sq rfl (q_subi rfl rfl (by omega)) <|
   sq rfl (q_eqi rfl rfl) <|
   sq_end) ?_
 clear hF hS; intro a w hF hS
 refine hK3 _ _ ?_
 clear hK3
 refine wp_ifd hF rfl (fun hc1 => ?_) (fun hc1 => ?_)
 ·have hn3 : n = 1 := by omega
  have hxa := hx (ls.getD lo.toNat kv0) (Mk.getD_in (by omega))
  have hd16 := Mk.leafD_16 (ls.getD lo.toNat kv0)
  refine wp_seq_k ?_; intro K4 hK4
  refine regl ?_
  refine wpl_sq hF hS (sq rfl (q_ld_old1 ty72 rfl hb1 rfl rfl) <|
    sq rfl (q_move rfl) <|
    sq rfl (q_idx_sl ty72 ty142 hb rfl rfl (by omega)) <|
    sq rfl (q_ld_F ty142 hb zin0 rfl rfl (by omega)) <|
    sq rfl (q_call fn117 rfl (fun w hS => leaf_ct (ls.getD lo.toNat kv0) hxa w (hS.ext _ _ hg1)) (fun _ _ _ h => h)) <|
    sq_end) ?_
  clear hF hS; intro a w hF hS
  refine wpl_ef hF hS rfl (ef_storeW ty62 0 rfl rfl rfl rfl bQ oQ bQ) ?_
  clear hF hS; rintro _ _ _ a w ⟨rfl, rfl, rfl⟩ hF hS
  replace hS : St _ [] [_] _ := hS
  refine wpList_nil ?_
  refine hK4 _ _ ?_
  clear hK4
  refine wp_ret ?_
  exact fn_ret (rs := [.cell 6 62]) rfl hF hS (vs := [_]) ⟨⟨_, _, _, _, _, _, _, rfl, List.mem_of_getElem? (i := 0) rfl, ty62, .inl ⟨rfl, bQ, rfl⟩⟩, trivial⟩ zQ zQ (by rw [hn3, Mk.rowD_sub1 (by omega)])
 ·have hn2 : 2 ≤ n := by omega
  have hhl := Mk.half_lt hn2
  have hra := Mk.rowD_16 (ls := Mk.sub ls lo.toNat (Mk.half n)) (by rw [Mk.sub_len (by omega)]; omega)
  have hrb := Mk.rowD_16 (ls := Mk.sub ls (lo + Mk.half n).toNat (n - Mk.half n)) (by rw [Mk.sub_len (by omega)]; omega)
  have hnd := Mk.nodeD_16 (Mk.rowD (Mk.sub ls lo.toNat (Mk.half n))) (Mk.rowD (Mk.sub ls (lo + Mk.half n).toNat (n - Mk.half n)))
  refine wp_skip ?_
  refine hK2 _ _ ?_
  clear hK2
  refine wp_seq_k ?_; intro K5 hK5
  refine reg hF hS (sq rfl (q_move rfl) <|
    sq rfl (q_move rfl) <|
    sq rfl (q_call fn118 rfl (fun w hS => middle_ct _ _ n (by omega) (by omega) (by omega) (by omega) w ) (fun _ _ _ h => h)) <|
    sq rfl (q_assign rfl) <|
    sq_end) ?_
  clear hF hS; intro a w hF hS
  refine hK5 _ _ ?_
  clear hK5
  refine wp_seq_k ?_; intro K6 hK6
  refine regt 9 mixed kQ hF hS (sq rfl (q_ld_old1 ty197 rfl hb3 rfl rfl) <|
    sq rfl (q_move rfl) <|
    sq rfl (q_move rfl) <|
    sq rfl (q_callv fn116 rfl rfl (by exact fun w hS => ih _ _ (Mk.half n) (by omega) (by omega) (by omega) (by omega) (by omega) w (hS.ext _ _ hb1) (Sl.mono (hS.le zin0) hb) (hS.ext _ _ hb3) (hS.ext _ _ hg1)) (fun _ _ _ h => h)) <|
    sq rfl (q_ld_old1 ty197 rfl hb3 rfl rfl) <|
    sq rfl (q_move rfl) <|
    sq rfl (q_move rfl) <|
    sq rfl (q_callv fn116 rfl rfl (by exact fun w hS => ih _ _ (n - Mk.half n) (by omega) (by omega) (by omega) (by omega) (by omega) w (hS.ext _ _ hb1) (Sl.mono (hS.le zin0) hb) (hS.ext _ _ hb3) (hS.ext _ _ hg1)) (fun _ _ _ h => h)) <|
    sq rfl (q_call fn119 rfl (fun w hS => node_ct _ _ (by first | with_reducible assumption | omega) (by first | with_reducible assumption | omega) w (hS.ext _ _ hg1)) (fun _ _ _ h => h)) <|
    sq_end) ?_
  clear hF hS; intro a w hF hS
  refine wpl_ef hF hS rfl (ef_storeW ty62 0 rfl rfl rfl rfl bQ oQ bQ) ?_
  clear hF hS; rintro _ _ _ a w ⟨rfl, rfl, rfl⟩ hF hS
  replace hS : St _ [] [_] _ := hS
  refine wpList_nil ?_
  refine hK6 _ _ ?_
  clear hK6
  refine wp_ret ?_
  exact fn_ret (rs := [.cell 6 62]) rfl hF hS (vs := [_]) ⟨⟨_, _, _, _, _, _, _, rfl, List.mem_of_getElem? (i := 0) rfl, ty62, .inl ⟨rfl, bQ, rfl⟩⟩, trivial⟩ zQ zQ (by rw [Mk.rowD_sub (by omega) hn2, show lo.toNat + Mk.half n = (lo + Mk.half n).toNat by omega])

theorem dig_all (v : Value) (ls : List Mk.Lf) (e1 e3 : Nat) {bte1 bte3 : TypeId} {fze1 fze3 : Nat × Nat} (hl : ls.length < 1048576) (hx : ∀ x ∈ ls, x.1.length < 1048576 ∧ x.2.length < 1048576) (fz1 : Nat × Nat) (bt1 : TypeId) : ∀ (f : Nat) (lo hi : Int) (n : Nat) (ha : 0 ≤ lo) (hn : hi = lo + n) (hn1 : 1 ≤ n) (hnf : n ≤ f) (han : lo + n ≤ ls.length) (w : World) (hb1 : w.heap[e1]? = some (.cells [v].toArray bte1 fze1)) (hb : Sl encF (ph w) v ls) (hb3 : w.heap[e3]? = some (.cells [.func (.func 116) (List.nil : List Value).toArray [Value.pointer (some ⟨e1, 0, none⟩), Value.pointer (some ⟨e3, 0, none⟩)].toArray].toArray bte3 fze3)) (hg1 : w.heap[1]? = some (.cells (Sha.kc.map vw).toArray bt1 fz1)), Ct Tryz.prog 116 [vi lo, vi hi, .pointer (some ⟨e1, 0, none⟩), .pointer (some ⟨e3, 0, none⟩)] w (fun r _ _ => r = .agg ((Mk.rowD (Mk.sub ls lo.toNat n)).map vb).toArray) := by
 intro f
 induction f with
 | zero => intro lo hi n ha hn hn1 hnf; omega
 | succ f ih => exact fun lo hi n ha hn hn1 hnf han w hb1 hb hb3 hg1 => dig_step v ls e1 e3 hl hx fz1 bt1 f ih lo hi n ha hn hn1 hnf han w hb1 hb hb3 hg1

set_option maxRecDepth 4000 in
set_option maxHeartbeats 2000000 in
theorem digest_ct (v : Value) (ls : List Mk.Lf) (hl : ls.length < 1048576) (h1 : 1 ≤ ls.length) (hx : ∀ x ∈ ls, x.1.length < 1048576 ∧ x.2.length < 1048576) (w : World) (hb : Sl encF (ph w) v ls) {fz1 : Nat × Nat} {bt1 : TypeId} (hg1 : w.heap[1]? = some (.cells (Sha.kc.map vw).toArray bt1 fz1)) : Ct Tryz.prog 77 [v] w (fun r _ _ => r = .agg ((Mk.rowD ls).map vb).toArray) := by
 refine fn_enter Tryz.func77 rfl Tryz.ntmps77 (Nat.le_of_ble_eq_true rfl) fun a hF hS => ?_
 have hbl := hb.1
 have hr1 := Mk.rowD_16 h1
 have hr2 : (Mk.rowD (Mk.sub ls 0 ls.length)).length = 16 := by rw [Mk.sub_all]; exact hr1
 refine wp_seq_k ?_; intro K1 hK1
 refine regl ?_
 refine wpl_ef hF hS rfl (ef_box1 rfl (sl_one' hb)) ?_
 clear hF hS; rintro _ _ _ a w ⟨b1, rfl, rfl, rfl⟩ hF hS
 refine wpl_ef hF hS rfl (ef_allocA ty62) ?_
 clear hF hS; rintro _ _ _ a w ⟨b2, rfl, rfl, rfl⟩ hF hS
 rw [show List.replicate 16 (Value.int .u8 0) = (List.replicate 16 (0 : UInt8)).map vb from by rw [List.map_replicate] <;> rfl] at hS
 refine wpList_nil ?_
 refine hK1 _ _ ?_
 clear hK1
 refine wp_seq_k ?_; intro K2 hK2
 refine regl ?_
 refine wpl_ef hF hS rfl (ef_alloc1 ty197 (by rfl)) ?_
 clear hF hS; rintro _ _ _ a w ⟨b3, rfl, rfl, rfl⟩ hF hS
 refine wpList_nil ?_
 refine hK2 _ _ ?_
 clear hK2
 refine wp_seq_k ?_; intro K3 hK3
 refine regl ?_
 refine wpl_sq hF hS (sq rfl (q_mkf rfl rfl) <|
   sq_end) ?_
 clear hF hS; intro a w hF hS
 refine wpl_ef hF hS rfl (ef_store1 ty197 0 rfl rfl rfl rfl (by simp)) ?_
 clear hF hS; rintro _ _ _ a w ⟨rfl, rfl, rfl⟩ hF hS
 (try simp only [List.set_cons_zero, List.set_cons_succ] at hS)
 replace hS : St _ [] [_, _, _] _ := hS
 refine wpList_nil ?_
 refine hK3 _ _ ?_
 clear hK3
 refine wp_seq_k ?_; intro K4 hK4
 refine regl ?_
 refine wpl_sq hF hS (sq rfl (q_ld_blk1 ty197 0 rfl rfl rfl rfl) <|
   sq rfl (q_ld_blk1 ty72 2 rfl rfl rfl rfl) <|
   sq rfl (q_len_sl ty72 hb rfl) <|
   sq rfl (q_callv fn116 rfl rfl (by exact fun w hS => dig_all v ls _ _ hl hx _ _ ls.length 0 ls.length ls.length (by omega) (by omega) h1 (Nat.le_refl _) (by omega) w (own_box hS 2 rfl) (Sl.mono (hS.le zin0) hb) (own_box hS 0 rfl) (hS.ext _ _ hg1)) (fun _ _ _ h => h)) <|
   sq_end) ?_
 clear hF hS; intro a w hF hS
 refine wpl_ef hF hS rfl (ef_storeW ty62 1 rfl rfl rfl rfl bQ oQ bQ) ?_
 clear hF hS; rintro _ _ _ a w ⟨rfl, rfl, rfl⟩ hF hS
 replace hS : St _ [] [_, _, _] _ := hS
 refine wpList_nil ?_
 refine hK4 _ _ ?_
 clear hK4
 refine wp_ret ?_
 exact fn_ret (rs := [.cell 2 62]) rfl hF hS (vs := [_]) ⟨⟨_, _, _, _, _, _, _, rfl, List.mem_of_getElem? (i := 1) rfl, ty62, .inl ⟨rfl, bQ, rfl⟩⟩, trivial⟩ zQ zQ (by rw [show (0 : Int).toNat = 0 from rfl, Mk.sub_all])

set_option maxRecDepth 4000 in
set_option maxHeartbeats 2000000 in
theorem mroot_ct (v : Value) (ls : List Mk.Lf) (w : World) (hb : Sl encF (ph w) v ls) {fz1 : Nat × Nat} {bt1 : TypeId} (hg1 : w.heap[1]? = some (.cells (Sha.kc.map vw).toArray bt1 fz1)) : Ct Tryz.prog 40 [v] w (fun r _ _ => r = .tuple [.agg (((Mk.rootE ls).1).map vb).toArray, vi (Mk.rootE ls).2].toArray) := by
 refine fn_enter Tryz.func40 rfl Tryz.ntmps40 (Nat.le_of_ble_eq_true rfl) fun a hF hS => ?_
 have hbl := hb.1
 refine wp_seq_k ?_; intro K1 hK1
 refine regl ?_
 refine wpl_ef hF hS rfl (ef_allocA ty62) ?_
 clear hF hS; rintro _ _ _ a w ⟨b1, rfl, rfl, rfl⟩ hF hS
 rw [show List.replicate 16 (Value.int .u8 0) = (List.replicate 16 (0 : UInt8)).map vb from by rw [List.map_replicate] <;> rfl] at hS
 refine wpl_sq hF hS (sq rfl (q_assign rfl) <|
   sq_end) ?_
 clear hF hS; intro a w hF hS
 refine wpList_nil ?_
 refine hK1 _ _ ?_
 clear hK1
 refine wp_seq_k ?_; intro K2 hK2
 refine wp_seq_k ?_; intro K3 hK3
 refine reg hF hS (sq rfl (q_move rfl) <|
   sq rfl (q_call fn75 rfl (fun w hS => valid_ct _ _ w (Sl.mono (hS.le zin0) hb)) (fun _ _ _ h => h)) <|
   sq rfl (q_assign rfl) <|
   sq_end) ?_
 clear hF hS; intro a w hF hS
 refine hK3 _ _ ?_
 clear hK3
 refine wp_seq_k ?_; intro K4 hK4
 refine reg hF hS (sq rfl (q_move rfl) <|
   sq rfl (q_nei rfl rfl) <|
   sq_end) ?_
 clear hF hS; intro a w hF hS
 refine hK4 _ _ ?_
 clear hK4
 refine wp_ifn hF rfl (fun hc1 => ?_) (fun hc1 => ?_)
 ·refine wp_seq_k ?_; intro K5 hK5
  refine regl ?_
  refine wpl_sq hF hS (sq rfl (q_build rfl (run_build_arr ty62 ty5 rfl)) <|
    sq rfl (q_move rfl) <|
    sq_end) ?_
  clear hF hS; intro a w hF hS
  refine wpl_ef hF hS rfl (ef_storeW ty62 0 rfl rfl rfl rfl bQ oQ bQ) ?_
  clear hF hS; rintro _ _ _ a w ⟨rfl, rfl, rfl⟩ hF hS
  replace hS : St _ [] [_] _ := hS
  refine wpl_sq hF hS (sq rfl (q_assign rfl) <|
    sq_end) ?_
  clear hF hS; intro a w hF hS
  refine wpList_nil ?_
  refine hK5 _ _ ?_
  clear hK5
  refine wp_ret ?_
  exact fn_ret (rs := [.cell 2 62, .tmp 3]) rfl hF hS (vs := [_, _]) ⟨⟨_, _, _, _, _, _, _, rfl, List.mem_of_getElem? (i := 0) rfl, ty62, .inl ⟨rfl, bQ, rfl⟩⟩, rfl, trivial⟩ zQ zQ (by rw [Mk.rootE_e (by simpa using hc1)]; rfl)
 ·have hv0 : Mk.vE ls = 0 := by simpa using hc1
  have hva := Mk.vE_asc hv0
  have hx9 : ∀ x ∈ ls, x.1.length < 1048576 ∧ x.2.length < 1048576 := fun x hx => by have := hva.2.2 x hx; omega
  refine wp_skip ?_
  refine hK2 _ _ ?_
  clear hK2
  refine wp_seq_k ?_; intro K6 hK6
  refine wp_seq_k ?_; intro K7 hK7
  refine reg hF hS (sq rfl (q_move rfl) <|
    sq rfl (q_len_sl ty72 hb rfl) <|
    sq rfl (q_eqi rfl rfl) <|
    sq_end) ?_
  clear hF hS; intro a w hF hS
  refine hK7 _ _ ?_
  clear hK7
  refine wp_ifd hF rfl (fun hc2 => ?_) (fun hc2 => ?_)
  ·have hr3 : ∀ n d, (Mk.rootD n d).length = 16 := Mk.rootD_16
   refine wp_seq_k ?_; intro K8 hK8
   refine regl ?_
   refine wpl_sq hF hS (sq rfl (q_build rfl (run_build_arr ty62 ty5 rfl)) <|
     sq rfl (q_call fn76 rfl (fun w hS => root_ct _ (List.replicate 16 0) (by simp) (by omega) w (hS.ext _ _ hg1)) (fun _ _ _ h => h)) <|
     sq_end) ?_
   clear hF hS; intro a w hF hS
   refine wpl_ef hF hS rfl (ef_storeW ty62 0 rfl rfl rfl rfl bQ oQ bQ) ?_
   clear hF hS; rintro _ _ _ a w ⟨rfl, rfl, rfl⟩ hF hS
   replace hS : St _ [] [_] _ := hS
   refine wpl_sq hF hS (sq rfl (q_assign rfl) <|
     sq_end) ?_
   clear hF hS; intro a w hF hS
   refine wpList_nil ?_
   refine hK8 _ _ ?_
   clear hK8
   refine wp_ret ?_
   exact fn_ret (rs := [.cell 2 62, .tmp 3]) rfl hF hS (vs := [_, _]) ⟨⟨_, _, _, _, _, _, _, rfl, List.mem_of_getElem? (i := 0) rfl, ty62, .inl ⟨rfl, bQ, rfl⟩⟩, rfl, trivial⟩ zQ zQ (by rw [Mk.rootE_0 hv0 (by omega)]; rfl)
  ·have hl1 : 1 ≤ ls.length := by omega
   have hr1 := Mk.rowD_16 hl1
   have hr2 := Mk.rootD_16 ls.length (Mk.rowD ls)
   refine wp_skip ?_
   refine hK6 _ _ ?_
   clear hK6
   refine wp_seq_k ?_; intro K9 hK9
   refine regl ?_
   refine wpl_sq hF hS (sq rfl (q_move rfl) <|
     sq rfl (q_len_sl ty72 hb rfl) <|
     sq rfl (q_move rfl) <|
     sq rfl (q_call fn77 rfl (fun w hS => digest_ct _ _ (by omega) hl1 hx9 w (Sl.mono (hS.le zin0) hb) (hS.ext _ _ hg1)) (fun _ _ _ h => h)) <|
     sq rfl (q_call fn76 rfl (fun w hS => root_ct _ _ hr1 (by omega) w (hS.ext _ _ hg1)) (fun _ _ _ h => h)) <|
     sq_end) ?_
   clear hF hS; intro a w hF hS
   refine wpl_ef hF hS rfl (ef_storeW ty62 0 rfl rfl rfl rfl bQ oQ bQ) ?_
   clear hF hS; rintro _ _ _ a w ⟨rfl, rfl, rfl⟩ hF hS
   replace hS : St _ [] [_] _ := hS
   refine wpl_sq hF hS (sq rfl (q_assign rfl) <|
     sq_end) ?_
   clear hF hS; intro a w hF hS
   refine wpList_nil ?_
   refine hK9 _ _ ?_
   clear hK9
   refine wp_ret ?_
   exact fn_ret (rs := [.cell 2 62, .tmp 3]) rfl hF hS (vs := [_, _]) ⟨⟨_, _, _, _, _, _, _, rfl, List.mem_of_getElem? (i := 0) rfl, ty62, .inl ⟨rfl, bQ, rfl⟩⟩, rfl, trivial⟩ zQ zQ (by rw [Mk.rootE_n hv0]; rfl)
end Go.Proofs.YtngcjojijaknnaaGreatDoor
