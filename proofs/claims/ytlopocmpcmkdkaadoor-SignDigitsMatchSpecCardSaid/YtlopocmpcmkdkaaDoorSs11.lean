/- A text of a proof over this seat: walks over the program's functions and the plain laws that they need. -/
import Derived.Test.YtlopocmpcmkdkaaDoorSs10
import Derived.Test.YtlopocmpcmkdkaaDoorSiA
import Derived.Test.YtlopocmpcmkdkaaDoorFwB
import Derived.Test.YtlopocmpcmkdkaaDoorFwD
import Derived.Test.YtlopocmpcmkdkaaDoorFwC
set_option linter.all false
namespace Go.Proofs.YtlopocmpcmkdkaaDoor
open Go.Fw
theorem fn9 : FnOk Tryd.prog 9 := ⟨_, Tryd.func9, rfl, by kernel_rfl⟩
attribute [local irreducible] Sha.sum Sha.mac Sha.ofD Wi.int Wi.ints Wi.bytes Sha.inp Si.leaf Si.nodeD Si.start Si.digs Si.dig Wi.getInt Si.leafD Si.sigS Si.sigE Si.pub Si.pubE Si.ver Si.tree

set_option maxRecDepth 4000 in
set_option maxHeartbeats 2000000 in
theorem slaw1_ct (d : List UInt8) (hd9 : d.length = 16) (w : World) {fz1 : Nat × Nat} {bt1 : TypeId} (hg1 : w.heap[1]? = some (.cells (Sha.kc.map vw).toArray bt1 fz1)) : Ct Tryd.prog 3 [.agg ((d).map vb).toArray] w (fun r _ _ => r = .bool true) := by
 refine fn_enter Tryd.func3 rfl Tryd.ntmps3 (Nat.le_of_ble_eq_true rfl) fun a hF hS => ?_
 have hdl := Si.digs_len d
 refine wp_seq_k ?_; intro K1 hK1
 refine regl ?_
 refine wpl_ef hF hS rfl (ef_boxA rfl) ?_
 clear hF hS; rintro _ _ _ a w ⟨b1, rfl, rfl, rfl⟩ hF hS
 refine wpl_sq hF hS (sq rfl (q_assign rfl) <|
   sq_end) ?_
 clear hF hS; intro a w hF hS
 refine wpList_nil ?_
 refine hK1 _ _ ?_
 clear hK1
 refine wp_seq_k ?_; intro K2 hK2
 refine reg hF hS (sq rfl (q_call fn9 rfl (fun w hS => sanity_ct w (hS.ext _ _ hg1)) (fun _ _ _ h => h)) <|
   sq rfl (q_assign rfl) <|
   sq_end) ?_
 clear hF hS; intro a w hF hS
 refine hK2 _ _ ?_
 clear hK2
 refine wp_seq_k ?_; intro K3 hK3
 refine regl ?_
 refine wpl_sq hF hS (sq rfl (q_ld_blkW ty23 0 rfl rfl bQ rfl) <|
   sq_end) ?_
 clear hF hS; intro a w hF hS
 refine wpl_ef hF hS rfl (ef_call fn10 rfl (fun w hS => sdgs_ct _ (by first | with_reducible assumption | omega) w )) ?_
 clear hF hS; rintro v2 _ _ a w ⟨_, _, rfl, rfl, ⟨z3, hz4, rfl, rfl⟩⟩ hF hS
 replace hS : St _ [_] [_] _ := hS
 refine wpl_sq hF hS (sq rfl (q_assign rfl) <|
   sq_end) ?_
 clear hF hS; intro a w hF hS
 refine wpList_nil ?_
 refine hK3 _ _ ?_
 clear hK3
 refine wp_seq_k ?_; intro K4 hK4
 refine regl ?_
 refine wpl_sq hF hS (sq rfl (q_ld_blkW ty23 0 rfl rfl bQ rfl) <|
   sq_end) ?_
 clear hF hS; intro a w hF hS
 refine wpl_ef hF hS rfl (ef_call fn11 rfl (fun w hS => srdgs_ct _ (by first | with_reducible assumption | omega) w )) ?_
 clear hF hS; rintro v5 _ _ a w ⟨_, _, rfl, rfl, ⟨z6, hz7, rfl, rfl⟩⟩ hF hS
 replace hS : St _ [_, _] [_] _ := hS
 refine wpl_sq hF hS (sq rfl (q_assign rfl) <|
   sq_end) ?_
 clear hF hS; intro a w hF hS
 refine wpList_nil ?_
 refine hK4 _ _ ?_
 clear hK4
 refine wp_seq_k ?_; intro K5 hK5
 refine wp_seq_k ?_; intro K6 hK6
 refine reg hF hS (sq rfl (q_move rfl) <|
   sq rfl (q_len_sl ty25 hz4 rfl) <|
   sq rfl (q_move rfl) <|
   sq rfl (q_len_sl ty25 hz7 rfl) <|
   sq rfl (q_nf (q_nei rfl rfl) (rfl)) <|
   sq_end) ?_
 clear hF hS; intro a w hF hS
 refine hK6 _ _ ?_
 clear hK6
 refine wp_if hF rfl (fun h => absurd h (by simp)) (fun _ => ?_)
 refine wp_skip ?_
 refine hK5 _ _ ?_
 clear hK5
 refine wp_seq_k ?_; intro K7 hK7
 refine wp_seq_k ?_; intro K8 hK8
 refine reg hF hS (sq rfl (q_assign rfl) <|
   sq_end) ?_
 clear hF hS; intro a w hF hS
 refine hK8 _ _ ?_
 clear hK8
 refine wp_block ?_
 obtain ⟨hs0, hhs0, hS⟩ : ∃ h, h = _ ∧ St _ _ h _ := ⟨_, rfl, hS⟩
 refine wp_loopx (γ := Int) (0) (fun (i : Int) => [(6, vi i)]) [(3, _), (4, _), (5, _)] (fun (i : Int) => hs0) (fun (i : Int) => 0 ≤ i ∧ i ≤ 68) (fun (i : Int) => (68 - i).toNat) (hF.sub ⟨rfl, rfl, rfl, rfl, trivial⟩) (by subst hhs0; exact hS) (by exact ⟨Int.le_refl _, by omega⟩) ?_
 clear hF hS; rintro i a w hfact hF hS
 subst hhs0; (try dsimp only at hfact); (try dsimp only at hF); (try dsimp only at hS)
 obtain ⟨hi0, hi1⟩ := hfact
 replace hS : St _ [_, _] [_] _ := hS
 have hdg := Si.digs_get d i.toNat
 refine wp_seq_k ?_; intro K9 hK9
 refine wp_seq_k ?_; intro K10 hK10
 refine reg hF hS (sq rfl (q_move rfl) <|
   sq rfl (q_move rfl) <|
   sq rfl (q_len_sl ty25 hz4 rfl) <|
   sq rfl (q_lti rfl rfl) <|
   sq_end) ?_
 clear hF hS; intro a w hF hS
 refine hK10 _ _ ?_
 clear hK10
 refine wp_ifd hF rfl (fun hc2 => ?_) (fun hc2 => ?_)
 ·refine wp_skip ?_
  refine hK9 _ _ ?_
  clear hK9
  refine wp_seq_k ?_; intro K11 hK11
  refine wp_block ?_
  refine wp_seq_k ?_; intro K12 hK12
  refine regd mixed kQ hF hS (sq rfl (q_move rfl) <|
    sq rfl (q_move rfl) <|
    sq rfl (q_idx_sl ty25 ty3 hz4 rfl rfl (by omega)) <|
    sq rfl (q_ld_I ty3 hz4 (.inr (by simp)) rfl rfl (by omega)) <|
    sq rfl (q_move rfl) <|
    sq rfl (q_move rfl) <|
    sq rfl (q_idx_sl ty25 ty3 hz7 rfl rfl (by omega)) <|
    sq rfl (q_ld_I ty3 hz7 (.inr (by simp)) rfl rfl (by omega)) <|
    sq rfl (q_nf (q_nei rfl rfl) (rfl)) <|
    sq rfl (q_move rfl) <|
    sq_go 32 rfl rfl rfl (q_move rfl) <|
    sq_go 32 rfl rfl rfl (q_move rfl) <|
    sq_go 32 rfl rfl rfl (q_idx_sl ty25 ty3 hz4 rfl rfl (by omega)) <|
    sq_go 32 rfl rfl rfl (q_ld_I ty3 hz4 (.inr (by simp)) rfl rfl (by omega)) <|
    sq_go 32 rfl rfl rfl (q_df (q_lti rfl rfl) (by omega)) <|
    sq rfl (q_pick_f rfl rfl) <|
    sq rfl (q_move rfl) <|
    sq_go 39 rfl rfl rfl (q_move rfl) <|
    sq_go 39 rfl rfl rfl (q_move rfl) <|
    sq_go 39 rfl rfl rfl (q_idx_sl ty25 ty3 hz4 rfl rfl (by omega)) <|
    sq_go 39 rfl rfl rfl (q_ld_I ty3 hz4 (.inr (by simp)) rfl rfl (by omega)) <|
    sq_go 39 rfl rfl rfl (q_df (q_gti rfl rfl) (by omega)) <|
    sq rfl (q_pick_f rfl rfl) <|
    sq_end) ?_
  clear hF hS; intro a w hF hS
  refine hK12 _ _ ?_
  clear hK12
  refine wp_if hF rfl (fun h => absurd h (by simp)) (fun _ => ?_)
  refine wp_skip ?_
  refine hK11 _ _ ?_
  clear hK11
  refine reg hF hS (sq rfl (q_move rfl) <|
    sq rfl (q_addi rfl rfl (by omega)) <|
    sq rfl (q_assign rfl) <|
    sq_end) ?_
  clear hF hS; intro a w hF hS
  refine ⟨(i + 1), ?_, ?_, hF.sub ⟨rfl, rfl, rfl, rfl, trivial⟩, ?_⟩
  ·(try dsimp only); omega
  ·(try dsimp only); omega
  ·exact hS
 ·refine wp_exit ?_
  refine hK7 _ _ ?_
  clear hK7
  refine wp_seq_k ?_; intro K13 hK13
  refine reg hF hS (sq rfl (q_move rfl) <|
    sq rfl (q_assign rfl) <|
    sq_end) ?_
  clear hF hS; intro a w hF hS
  refine hK13 _ _ ?_
  clear hK13
  refine wp_ret ?_
  exact fn_ret (rs := [.tmp 2]) rfl hF hS (vs := [_]) ⟨rfl, trivial⟩ zQ zQ (rfl)

end Go.Proofs.YtlopocmpcmkdkaaDoor
