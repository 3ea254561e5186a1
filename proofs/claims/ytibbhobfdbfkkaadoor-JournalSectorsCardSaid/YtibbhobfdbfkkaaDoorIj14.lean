/- A text of a proof over this seat: walks over the program's functions and the plain laws that they need. -/
import Derived.Test.YtibbhobfdbfkkaaDoorIj13
import Derived.Test.YtibbhobfdbfkkaaDoorFwG
import Derived.Test.YtibbhobfdbfkkaaDoorFwB
set_option linter.all false
namespace Go.Proofs.YtibbhobfdbfkkaaDoor
open Go.Fw
theorem fn5 : FnOk Tryd.prog 5 := ⟨_, Tryd.func5, rfl, by kernel_rfl⟩
theorem fn7 : FnOk Tryd.prog 7 := ⟨_, Tryd.func7, rfl, by kernel_rfl⟩
theorem fn9 : FnOk Tryd.prog 9 := ⟨_, Tryd.func9, rfl, by kernel_rfl⟩

attribute [local irreducible] Sha.sum Jn.good Jn.hd Jn.lb Jn.cnt Jn.unp Jn.pack

set_option maxRecDepth 4000 in
set_option maxHeartbeats 2000000 in
theorem jlaw1_ct (n : Int) (hn : -9223372036854775808 ≤ n ∧ n ≤ 9223372036854775807) (t s : List UInt8) (w : World) {fz0 fz1 : Nat × Nat} {bt0 bt1 : TypeId} (hg0 : w.heap[0]? = some (.cells (Sha.kc.map vw).toArray bt0 fz0)) (hg1 : w.heap[2]? = some (.cells (Sha.kc.map vw).toArray bt1 fz1)) : Ct Tryd.prog 3 [vi n, vs t, vs s] w (fun r _ _ => r = .bool true) := by
 refine fn_enter Tryd.func3 rfl Tryd.ntmps3 (Nat.le_of_ble_eq_true rfl) fun a hF hS => ?_
 have hpl := Jn.pack_len n t
 refine wp_seq_k ?_; intro K1 hK1
 refine reg hF hS (sq rfl (q_assign rfl) <|
   sq_end) ?_
 clear hF hS; intro a w hF hS
 refine hK1 _ _ ?_
 clear hK1
 refine wp_seq_k ?_; intro K2 hK2
 refine wp_seq_k ?_; intro K3 hK3
 refine reg hF hS (sq rfl (q_move rfl) <|
   sq rfl (q_len_s ty9 rfl) <|
   sq rfl (q_gti rfl rfl) <|
   sq_end) ?_
 clear hF hS; intro a w hF hS
 refine hK3 _ _ ?_
 clear hK3
 refine wp_ifd hF rfl (fun hc1 => ?_) (fun hc1 => ?_)
 ·refine wp_seq_k ?_; intro K4 hK4
  refine reg hF hS (sq rfl (q_call fn5 rfl (fun w hS => sanity40_ct w (hS.ext _ _ hg1)) (fun _ _ _ h => h)) <|
    sq rfl (q_assign rfl) <|
    sq_end) ?_
  clear hF hS; intro a w hF hS
  refine hK4 _ _ ?_
  clear hK4
  refine wp_ret ?_
  exact fn_ret (rs := [.tmp 6]) rfl hF hS (vs := [_]) ⟨rfl, trivial⟩ zQ zQ (rfl)
 ·refine wp_skip ?_
  refine hK2 _ _ ?_
  clear hK2
  refine wp_seq_k ?_; intro K5 hK5
  refine regl ?_
  refine wpl_sq hF hS (sq rfl (q_move rfl) <|
    sq rfl (q_move rfl) <|
    sq_end) ?_
  clear hF hS; intro a w hF hS
  refine wpl_ef hF hS rfl (ef_call fn6 rfl (fun w hS => pack_ct _ _ (by first | assumption | omega) w (hS.ext _ _ hg1))) ?_
  clear hF hS; rintro _ _ _ a w ⟨_, _, rfl, rfl, ⟨v2, rfl, rfl, rfl⟩⟩ hF hS
  replace hS : St _ [] [_] _ := hS
  refine wpl_sq hF hS (sq rfl (q_move rfl) <|
    sq rfl (q_extract rfl rfl) <|
    sq rfl (q_extract rfl rfl) <|
    sq rfl (q_assign rfl) <|
    sq rfl (q_assign rfl) <|
    sq_end) ?_
  clear hF hS; intro a w hF hS
  refine wpList_nil ?_
  refine hK5 _ _ ?_
  clear hK5
  refine wp_seq_k ?_; intro K6 hK6
  refine regl ?_
  refine wpl_sq hF hS (sq rfl (q_move rfl) <|
    sq rfl (q_move rfl) <|
    sq_end) ?_
  clear hF hS; intro a w hF hS
  refine wpl_ef hF hS rfl (ef_call fn7 rfl (fun w hS => rpack_ct _ _ (by first | assumption | omega) w (hS.ext _ _ hg0))) ?_
  clear hF hS; rintro _ _ _ a w ⟨_, _, rfl, rfl, ⟨v5, rfl, rfl, rfl⟩⟩ hF hS
  replace hS : St _ [] [_, _] _ := hS
  refine wpl_sq hF hS (sq rfl (q_move rfl) <|
    sq rfl (q_extract rfl rfl) <|
    sq rfl (q_extract rfl rfl) <|
    sq rfl (q_assign rfl) <|
    sq rfl (q_assign rfl) <|
    sq_end) ?_
  clear hF hS; intro a w hF hS
  refine wpList_nil ?_
  refine hK6 _ _ ?_
  clear hK6
  refine wp_seq_k ?_; intro K7 hK7
  refine reg hF hS (sq rfl (q_move rfl) <|
    sq rfl (q_call fn8 rfl (fun w hS => unpackx_ct _ w (hS.ext _ _ hg1)) (fun _ _ _ h => h)) <|
    sq rfl (q_move rfl) <|
    sq rfl (q_extract rfl rfl) <|
    sq rfl (q_extract rfl rfl) <|
    sq rfl (q_extract rfl rfl) <|
    sq rfl (q_extract rfl rfl) <|
    sq rfl (q_extract rfl rfl) <|
    sq rfl (q_assign rfl) <|
    sq rfl (q_assign rfl) <|
    sq rfl (q_assign rfl) <|
    sq rfl (q_assign rfl) <|
    sq rfl (q_assign rfl) <|
    sq_end) ?_
  clear hF hS; intro a w hF hS
  refine hK7 _ _ ?_
  clear hK7
  refine wp_seq_k ?_; intro K8 hK8
  refine regl ?_
  refine wpl_sq hF hS (sq rfl (q_move rfl) <|
    sq rfl (q_call fn9 rfl (fun w hS => runpack_ct _ w (hS.ext _ _ hg0)) (fun _ _ _ h => h)) <|
    sq_end) ?_
  clear hF hS; intro a w hF hS
  refine wpl_ef hF hS rfl (ef_allocA ty30) ?_
  clear hF hS; rintro _ _ _ a w ⟨b7, rfl, rfl, rfl⟩ hF hS
  refine wpl_ef hF hS rfl (ef_storeW ty30 0 rfl rfl rfl rfl bQ (oc_cons rfl (oc_cons rfl (oc_cons rfl (oc_cons rfl (oc_cons rfl oc_nil))))) bQ) ?_
  clear hF hS; rintro _ _ _ a w ⟨rfl, rfl, rfl⟩ hF hS
  replace hS : St _ [] [_, _, _] _ := hS
  refine wpList_nil ?_
  refine hK8 _ _ ?_
  clear hK8
  refine wp_seq_k ?_; intro K9 hK9
  refine reg hF hS (sq rfl (q_call fn5 rfl (fun w hS => sanity40_ct w (hS.ext _ _ hg1)) (fun _ _ _ h => h)) <|
    sq rfl (q_move rfl) <|
    sq_go 44 rfl rfl rfl (q_move rfl) <|
    sq_go 44 rfl rfl rfl (q_move rfl) <|
    sq_go 44 rfl rfl rfl (q_call fn10 rfl (fun w hS => samet_t _ _ _ w (own_slV (f := vs) (xs := (Jn.pack n t).1) (hS.own _ (List.mem_of_getElem? (i := 2) rfl)).1 (Jn.pack_el n t) rfl (by first | decide | omega)) (own_slV (f := vs) (xs := (Jn.pack n t).1) (hS.own _ (List.mem_of_getElem? (i := 1) rfl)).1 (Jn.pack_el n t) rfl (by first | decide | omega))) (fun _ _ _ h => h)) <|
    sq rfl (q_pick_t rfl rfl) <|
    sq rfl (q_move rfl) <|
    sq_go 49 rfl rfl rfl (q_move rfl) <|
    sq_go 49 rfl rfl rfl (q_move rfl) <|
    sq_go 49 rfl rfl rfl (q_dt (q_eqi rfl rfl) (by simp)) <|
    sq rfl (q_pick_t rfl rfl) <|
    sq rfl (q_move rfl) <|
    sq_go 54 rfl rfl rfl (q_move rfl) <|
    sq_go 54 rfl rfl rfl (q_move rfl) <|
    sq_go 54 rfl rfl rfl (q_move rfl) <|
    sq_go 54 rfl rfl rfl (q_move rfl) <|
    sq_go 54 rfl rfl rfl (q_move rfl) <|
    sq_go 54 rfl rfl rfl (q_buildS1 ty30 5 kQ rfl rfl (oc_cons rfl (oc_cons rfl (oc_cons rfl (oc_cons rfl (oc_cons rfl oc_nil))))) rfl rfl) <|
    sq_go 54 rfl rfl rfl (q_ld_blkW ty30 0 rfl rfl bQ rfl) <|
    sq_go 54 rfl rfl rfl (q_eqPt ty30 ty3 ty9 ty4 ⟨rfl, rfl, by decide⟩ ⟨rfl, rfl, by decide⟩ ⟨rfl, rfl, by decide⟩ ⟨rfl, rfl, by decide⟩ ⟨rfl, rfl, by decide⟩ kQ kQ rfl rfl) <|
    sq rfl (q_pick_t rfl rfl) <|
    sq rfl (q_move rfl) <|
    sq_go 64 rfl rfl rfl (q_move rfl) <|
    sq_go 64 rfl rfl rfl (q_len_s ty9 rfl) <|
    sq_go 64 rfl rfl rfl (q_call fn11 rfl (fun w hS => count_ct _ (by first | assumption | omega) w ) (fun _ _ _ h => h)) <|
    sq_go 64 rfl rfl rfl (q_move rfl) <|
    sq_go 64 rfl rfl rfl (q_len_s ty9 rfl) <|
    sq_go 64 rfl rfl rfl (q_call fn12 rfl (fun w hS => rcount_ct _ (by first | assumption | omega) w ) (fun _ _ _ h => h)) <|
    sq_go 64 rfl rfl rfl (q_dt (q_eqi rfl rfl) (by simp)) <|
    sq rfl (q_pick_t rfl rfl) <|
    sq rfl (q_move rfl) <|
    sq_go 73 rfl rfl rfl (q_move rfl) <|
    sq_go 73 rfl rfl rfl (q_call fn11 rfl (fun w hS => count_ct _ (by first | assumption | omega) w ) (fun _ _ _ h => h)) <|
    sq_go 73 rfl rfl rfl (q_move rfl) <|
    sq_go 73 rfl rfl rfl (q_call fn12 rfl (fun w hS => rcount_ct _ (by first | assumption | omega) w ) (fun _ _ _ h => h)) <|
    sq_go 73 rfl rfl rfl (q_dt (q_eqi rfl rfl) (by simp)) <|
    sq rfl (q_pick_t rfl rfl) <|
    sq rfl (q_assign rfl) <|
    sq_end) ?_
  clear hF hS; intro a w hF hS
  refine hK9 _ _ ?_
  clear hK9
  refine wp_ret ?_
  exact fn_ret (rs := [.tmp 6]) rfl hF hS (vs := [_]) ⟨rfl, trivial⟩ zQ zQ (rfl)
end Go.Proofs.YtibbhobfdbfkkaaDoor
