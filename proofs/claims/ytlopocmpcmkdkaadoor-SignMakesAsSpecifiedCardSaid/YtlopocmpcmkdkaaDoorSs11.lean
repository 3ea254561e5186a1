/- A text of a proof over this seat: walks over the program's functions and the plain laws that they need. -/
import Derived.Test.YtlopocmpcmkdkaaDoorSs10
import Derived.Test.YtlopocmpcmkdkaaDoorSiA
import Derived.Test.YtlopocmpcmkdkaaDoorFwB
import Derived.Test.YtlopocmpcmkdkaaDoorFwD
import Derived.Test.YtlopocmpcmkdkaaDoorFwC
set_option linter.all false
namespace Go.Proofs.YtlopocmpcmkdkaaDoor
open Go.Fw
theorem fn9 : FnOk Tryd.prog 9 := ⟨_, Tryd.func9, rfl, by kernel_rfl⟩
theorem fn13 : FnOk Tryd.prog 13 := ⟨_, Tryd.func13, rfl, by kernel_rfl⟩
theorem fn15 : FnOk Tryd.prog 15 := ⟨_, Tryd.func15, rfl, by kernel_rfl⟩
attribute [local irreducible] Sha.sum Sha.mac Sha.ofD Wi.int Wi.ints Wi.bytes Sha.inp Si.leaf Si.nodeD Si.start Si.digs Si.dig Wi.getInt Si.leafD Si.sigS Si.sigE Si.pub Si.pubE Si.ver Si.tree

set_option maxRecDepth 4000 in
set_option maxHeartbeats 2000000 in
theorem slaw2_ct (s : List UInt8) (hs9 : s.length ≤ 140737488355328) (nn : List Int) (hn2 : nn.length = 2) (hnr : ∀ x ∈ nn, -9223372036854775808 ≤ x ∧ x ≤ 9223372036854775807) (m : List UInt8) (hm9 : m.length ≤ 140737488355328) (w : World) {fz0 : Nat × Nat} {bt0 : TypeId} (hg0 : w.heap[0]? = some (.cells (Sha.kc.map vw).toArray bt0 fz0)) {fz1 : Nat × Nat} {bt1 : TypeId} (hg1 : w.heap[1]? = some (.cells (Sha.kc.map vw).toArray bt1 fz1)) : Ct Tryd.prog 4 [vs s, .agg (nn.map vi).toArray, vs m] w (fun r _ _ => r = .bool true) := by
 refine fn_enter Tryd.func4 rfl Tryd.ntmps4 (Nat.le_of_ble_eq_true rfl) fun a hF hS => ?_
 obtain ⟨n0, n1, rfl⟩ := Si.list2 hn2
 have hr0 := hnr n0 (by simp)
 have hr1 := hnr n1 (by simp)
 have hp16 := Si.pub_16 s n0
 have hd16 := Si.dig_16 (Si.pub s n0) n1 m
 refine wp_seq_k ?_; intro K1 hK1
 refine regl ?_
 refine wpl_ef hF hS rfl (ef_boxA rfl) ?_
 clear hF hS; rintro _ _ _ a w ⟨b1, rfl, rfl, rfl⟩ hF hS
 refine wpl_sq hF hS (sq rfl (q_assign rfl) <|
   sq_end) ?_
 clear hF hS; intro a w hF hS
 refine wpList_nil ?_
 refine hK1 _ _ ?_
 clear hK1
 refine wp_seq_k ?_; intro K2 hK2
 refine reg hF hS (sq rfl (q_call fn9 rfl (fun w hS => sanity_ct w (hS.ext _ _ hg1)) (fun _ _ _ h => h)) <|
   sq rfl (q_assign rfl) <|
   sq_end) ?_
 clear hF hS; intro a w hF hS
 refine hK2 _ _ ?_
 clear hK2
 refine wp_seq_k ?_; intro K3 hK3
 refine wp_seq_k ?_; intro K4 hK4
 refine regl ?_
 refine wpl_sq hF hS (sq rfl (q_move rfl) <|
   sq rfl (q_len_s ty9 rfl) <|
   sq rfl (q_gti rfl rfl) <|
   sq rfl (q_move rfl) <|
   sq_end) ?_
 clear hF hS; intro a w hF hS
 refine wpl_or 3 20 3 hF hS rfl rfl rfl rfl rfl (fun hg => have hg := (by first | exact of_decide_eq_false hg | exact hg); sq_go 20 rfl rfl rfl (q_move rfl) <|
   sq_go 20 rfl rfl rfl (q_len_s ty9 rfl) <|
   sq_go 20 rfl rfl rfl (q_gti rfl rfl) <|
   sq_end) rfl rfl ?_
 clear hF hS; intro a w hF hS
 refine wpl_sq hF hS (sq rfl (q_move rfl) <|
   sq_end) ?_
 clear hF hS; intro a w hF hS
 refine wpl_orG (q := (decide (2 < n0) && decide (n0 ≤ 6))) 25 8 hF hS rfl (by rfl) rfl (fun _ => sq_skip 25 rfl rfl rfl rfl <|
   sq_skip 25 rfl rfl rfl rfl <|
   sq_skip 25 rfl rfl rfl rfl <|
   sq_skip 25 rfl rfl rfl rfl <|
   sq_skipu 29 rfl rfl rfl <|
   sq_skipu 29 rfl rfl rfl <|
   sq_skipu 29 rfl rfl rfl <|
   sq_skip 25 rfl rfl rfl rfl <|
   sq_end) rfl (fun hg a w hF hS KG => ?_) ?_
 ·have hg := hg
  refine wpl_sq hF hS (sq_go 25 rfl rfl rfl (q_idx_arr ty28 ty3 rfl rfl (by omega)) <|
    sq_go 25 rfl rfl rfl (q_ld_blk1 ty3 0 rfl rfl rfl rfl) <|
    sq_go 25 rfl rfl rfl (q_gti rfl rfl) <|
    sq_go 25 rfl rfl rfl (q_move rfl) <|
    sq_end) ?_
  clear hF hS; intro a w hF hS
  refine wpl_andP 12 29 3 8 25 hF hS rfl rfl rfl rfl rfl rfl rfl (fun hg2 => have hg2 := (by first | exact of_decide_eq_true hg2 | exact hg2); sq_go 29 rfl rfl rfl (q_idx_arr ty28 ty3 rfl rfl (by omega)) <|
    sq_go 29 rfl rfl rfl (q_ld_blk1 ty3 0 rfl rfl rfl rfl) <|
    sq_go 29 rfl rfl rfl (q_lei rfl rfl) <|
    sq_end) rfl rfl ?_
  clear hF hS; intro a w hF hS
  refine wpl_sq hF hS (sq rfl (q_pick_f rfl rfl) <|
    sq_end) ?_
  clear hF hS; intro a w hF hS
  exact KG _ _ (hF.under 5 rfl rfl) hS
 clear hF hS; intro a w hF hS
 refine wpList_nil ?_
 refine hK4 _ _ ?_
 clear hK4
 refine wp_if hF rfl (fun hc1 => ?_) (fun hc1 => ?_)
 ·(try simp only [Bool.or_eq_true, Bool.and_eq_true, Bool.or_eq_false_iff, Bool.and_eq_false_iff, decide_eq_true_eq, decide_eq_false_iff_not, Bool.not_eq_true', Bool.not_eq_false'] at hc1)
  refine wp_seq_k ?_; intro K5 hK5
  refine reg hF hS (sq rfl (q_move rfl) <|
    sq rfl (q_assign rfl) <|
    sq_end) ?_
  clear hF hS; intro a w hF hS
  refine hK5 _ _ ?_
  clear hK5
  refine wp_ret ?_
  exact fn_ret (rs := [.tmp 6]) rfl hF hS (vs := [_]) ⟨rfl, trivial⟩ zQ zQ (rfl)
 ·(try simp only [Bool.or_eq_true, Bool.and_eq_true, Bool.or_eq_false_iff, Bool.and_eq_false_iff, decide_eq_true_eq, decide_eq_false_iff_not, Bool.not_eq_true', Bool.not_eq_false'] at hc1)
  refine wp_skip ?_
  refine hK3 _ _ ?_
  clear hK3
  refine wp_seq_k ?_; intro K6 hK6
  refine regl ?_
  refine wpl_sq hF hS (sq rfl (q_move rfl) <|
    sq rfl (q_idx_arr ty28 ty3 rfl rfl (by omega)) <|
    sq rfl (q_ld_blk1 ty3 0 rfl rfl rfl rfl) <|
    sq rfl (q_call fn12 rfl (fun w hS => pub_ct _ _ (by omega) w (hS.ext _ _ hg1)) (fun _ _ _ h => h)) <|
    sq rfl (q_move rfl) <|
    sq rfl (q_extract rfl rfl) <|
    sq rfl (q_extract rfl rfl) <|
    sq_end) ?_
  clear hF hS; intro a w hF hS
  refine wpl_ef hF hS rfl (ef_allocA ty23) ?_
  clear hF hS; rintro _ _ _ a w ⟨b2, rfl, rfl, rfl⟩ hF hS
  rw [show List.replicate 16 (Value.int .u8 0) = (List.replicate 16 (0 : UInt8)).map vb from by rw [List.map_replicate] <;> rfl] at hS
  refine wpl_ef hF hS rfl (ef_storeW ty23 0 rfl rfl rfl rfl bQ oQ bQ) ?_
  clear hF hS; rintro _ _ _ a w ⟨rfl, rfl, rfl⟩ hF hS
  replace hS : St _ [] [_, _] _ := hS
  refine wpl_sq hF hS (sq rfl (q_assign rfl) <|
    sq_end) ?_
  clear hF hS; intro a w hF hS
  refine wpList_nil ?_
  refine hK6 _ _ ?_
  clear hK6
  refine wp_seq_k ?_; intro K7 hK7
  refine regl ?_
  refine wpl_sq hF hS (sq rfl (q_move rfl) <|
    sq rfl (q_idx_arr ty28 ty3 rfl rfl (by omega)) <|
    sq rfl (q_ld_blk1 ty3 1 rfl rfl rfl rfl) <|
    sq rfl (q_call fn13 rfl (fun w hS => rpub_ct _ _ (by omega) w (hS.ext _ _ hg0)) (fun _ _ _ h => h)) <|
    sq rfl (q_move rfl) <|
    sq rfl (q_extract rfl rfl) <|
    sq rfl (q_extract rfl rfl) <|
    sq_end) ?_
  clear hF hS; intro a w hF hS
  refine wpl_ef hF hS rfl (ef_allocA ty23) ?_
  clear hF hS; rintro _ _ _ a w ⟨b3, rfl, rfl, rfl⟩ hF hS
  rw [show List.replicate 16 (Value.int .u8 0) = (List.replicate 16 (0 : UInt8)).map vb from by rw [List.map_replicate] <;> rfl] at hS
  refine wpl_ef hF hS rfl (ef_storeW ty23 0 rfl rfl rfl rfl bQ oQ bQ) ?_
  clear hF hS; rintro _ _ _ a w ⟨rfl, rfl, rfl⟩ hF hS
  replace hS : St _ [] [_, _, _] _ := hS
  refine wpl_sq hF hS (sq rfl (q_assign rfl) <|
    sq_end) ?_
  clear hF hS; intro a w hF hS
  refine wpList_nil ?_
  refine hK7 _ _ ?_
  clear hK7
  refine wp_seq_k ?_; intro K8 hK8
  refine reg hF hS (sq rfl (q_move rfl) <|
    sq rfl (q_idx_arr ty28 ty3 rfl rfl (by omega)) <|
    sq rfl (q_ld_blk1 ty3 2 rfl rfl rfl rfl) <|
    sq rfl (q_idx_arr ty28 ty3 rfl rfl (by omega)) <|
    sq rfl (q_ld_blk1 ty3 2 rfl rfl rfl rfl) <|
    sq rfl (q_move rfl) <|
    sq rfl (q_call fn14 rfl (fun w hS => sign_ct _ _ _ _ (by omega) (by first | with_reducible assumption | omega) (by omega) w (hS.ext _ _ hg1)) (fun _ _ _ h => h)) <|
    sq rfl (q_move rfl) <|
    sq rfl (q_extract rfl rfl) <|
    sq rfl (q_extract rfl rfl) <|
    sq rfl (q_assign rfl) <|
    sq rfl (q_assign rfl) <|
    sq_end) ?_
  clear hF hS; intro a w hF hS
  refine hK8 _ _ ?_
  clear hK8
  refine wp_seq_k ?_; intro K9 hK9
  refine reg hF hS (sq rfl (q_move rfl) <|
    sq rfl (q_idx_arr ty28 ty3 rfl rfl (by omega)) <|
    sq rfl (q_ld_blk1 ty3 2 rfl rfl rfl rfl) <|
    sq rfl (q_idx_arr ty28 ty3 rfl rfl (by omega)) <|
    sq rfl (q_ld_blk1 ty3 2 rfl rfl rfl rfl) <|
    sq rfl (q_move rfl) <|
    sq rfl (q_call fn15 rfl (fun w hS => rsign_ct _ _ _ _ (by omega) (by first | with_reducible assumption | omega) (by omega) w (hS.ext _ _ hg0)) (fun _ _ _ h => h)) <|
    sq rfl (q_move rfl) <|
    sq rfl (q_extract rfl rfl) <|
    sq rfl (q_extract rfl rfl) <|
    sq rfl (q_assign rfl) <|
    sq rfl (q_assign rfl) <|
    sq_end) ?_
  clear hF hS; intro a w hF hS
  refine hK9 _ _ ?_
  clear hK9
  refine wp_seq_k ?_; intro K10 hK10
  refine regd mixed kQ hF hS (sq rfl (q_move rfl) <|
    sq rfl (q_move rfl) <|
    sq_go 71 rfl rfl rfl (q_ld_blkW ty23 1 rfl rfl bQ rfl) <|
    sq_go 71 rfl rfl rfl (q_ld_blkW ty23 0 rfl rfl bQ rfl) <|
    sq_go 71 rfl rfl rfl (q_dt (q_eqAB ty23 ty5 kQ rfl rfl bQ bQ) (rfl)) <|
    sq rfl (q_pick_t rfl rfl) <|
    sq rfl (q_move rfl) <|
    sq_go 76 rfl rfl rfl (q_move rfl) <|
    sq_go 76 rfl rfl rfl (q_move rfl) <|
    sq_go 76 rfl rfl rfl (q_dt (q_eqi rfl rfl) (rfl)) <|
    sq rfl (q_pick_t rfl rfl) <|
    sq rfl (q_move rfl) <|
    sq_go 81 rfl rfl rfl (q_move rfl) <|
    sq_go 81 rfl rfl rfl (q_move rfl) <|
    sq_go 81 rfl rfl rfl (q_dt (q_eqs rfl rfl) (rfl)) <|
    sq rfl (q_pick_t rfl rfl) <|
    sq rfl (q_move rfl) <|
    sq_go 86 rfl rfl rfl (q_move rfl) <|
    sq_go 86 rfl rfl rfl (q_move rfl) <|
    sq_go 86 rfl rfl rfl (q_dt (q_eqi rfl rfl) (rfl)) <|
    sq rfl (q_pick_t rfl rfl) <|
    sq rfl (q_move rfl) <|
    sq_go 91 rfl rfl rfl (q_ld_blkW ty23 1 rfl rfl bQ rfl) <|
    sq_go 91 rfl rfl rfl (q_idx_arr ty28 ty3 rfl rfl (by omega)) <|
    sq_go 91 rfl rfl rfl (q_ld_blk1 ty3 2 rfl rfl rfl rfl) <|
    sq_go 91 rfl rfl rfl (q_move rfl) <|
    sq_go 91 rfl rfl rfl (q_call fn16 rfl (fun w hS => sdigest_ct _ _ _ (by first | with_reducible assumption | omega) (by omega) (by omega) w (hS.ext _ _ hg1)) (fun _ _ _ h => h)) <|
    sq_go 91 rfl rfl rfl (q_ld_blkW ty23 1 rfl rfl bQ rfl) <|
    sq_go 91 rfl rfl rfl (q_idx_arr ty28 ty3 rfl rfl (by omega)) <|
    sq_go 91 rfl rfl rfl (q_ld_blk1 ty3 2 rfl rfl rfl rfl) <|
    sq_go 91 rfl rfl rfl (q_move rfl) <|
    sq_go 91 rfl rfl rfl (q_call fn17 rfl (fun w hS => srdigest_ct _ _ _ (by first | with_reducible assumption | omega) (by omega) (by omega) w (hS.ext _ _ hg0)) (fun _ _ _ h => h)) <|
    sq_go 91 rfl rfl rfl (q_dt (q_eqAB ty23 ty5 kQ rfl rfl bQ bQ) (rfl)) <|
    sq rfl (q_pick_t rfl rfl) <|
    sq rfl (q_assign rfl) <|
    sq_end) ?_
  clear hF hS; intro a w hF hS
  refine hK10 _ _ ?_
  clear hK10
  refine wp_ret ?_
  exact fn_ret (rs := [.tmp 6]) rfl hF hS (vs := [_]) ⟨rfl, trivial⟩ zQ zQ (rfl)

end Go.Proofs.YtlopocmpcmkdkaaDoor
