/- A text of a proof over this seat: walks over the program's functions and the plain laws that they need. -/
import Derived.Test.YtlopocmpcmkdkaaDoorSh11
import Derived.Test.YtlopocmpcmkdkaaDoorFwB
set_option linter.all false
namespace Go.Proofs.YtlopocmpcmkdkaaDoor
open Go.Fw
theorem fn64 : FnOk Tryd.prog 64 := ⟨_, Tryd.func64, rfl, by kernel_rfl⟩

attribute [local irreducible] Sha.sum Sha.keyOf Sha.padK Sha.mac

set_option maxRecDepth 4000 in
set_option maxHeartbeats 2000000 in
theorem rmac_ct (key text : List UInt8) (hk : key.length < 1099511627776) (ht : text.length < 549755813888) (w : World) {fz0 : Nat × Nat} {bt0 : TypeId} (hg0 : w.heap[0]? = some (.cells (Sha.kc.map vw).toArray bt0 fz0)) : Ct Tryd.prog 51 [vs key, vs text] w (fun r _ _ => r = vs (Sha.mac key text)) := by
 refine fn_enter Tryd.func51 rfl Tryd.ntmps51 (Nat.le_of_ble_eq_true rfl) fun a hF hS => ?_
 have hp1 := Sha.padK_len (Sha.keyOf key) 54
 have hp2 := Sha.padK_len (Sha.keyOf key) 92
 have hs1 := Sha.sum_len (Sha.padK (Sha.keyOf key) 54 ++ text)
 have hs2 := Sha.sum_len (Sha.padK (Sha.keyOf key) 92 ++ Sha.sum (Sha.padK (Sha.keyOf key) 54 ++ text))
 have hl1 : (Sha.padK (Sha.keyOf key) 54 ++ text).length = 64 + text.length := by rw [List.length_append, hp1]
 have hl2 : (Sha.padK (Sha.keyOf key) 92 ++ Sha.sum (Sha.padK (Sha.keyOf key) 54 ++ text)).length = 64 + 32 := by rw [List.length_append, hp2, hs1]
 refine wp_seq_k ?_; intro K1 hK1
 refine reg hF hS (sq rfl (q_assign rfl) <|
   sq_end) ?_
 clear hF hS; intro a w hF hS
 refine hK1 _ _ ?_
 clear hK1
 refine wp_seq_k ?_; intro K2 hK2
 refine regl ?_
 refine wpl_sq hF hS (sq rfl (q_move rfl) <|
   sq_end) ?_
 clear hF hS; intro a w hF hS
 refine wpl_ef hF hS rfl (ef_call fn64 rfl (fun w hS => rpadk_ct _ 54 (by first | with_reducible assumption | omega) w (hS.ext _ _ hg0))) ?_
 clear hF hS; rintro v1 _ _ a w ⟨_, _, rfl, rfl, rfl, rfl⟩ hF hS
 replace hS : St _ [] [_] _ := hS
 refine wpl_sq hF hS (sq rfl (q_assign rfl) <|
   sq_end) ?_
 clear hF hS; intro a w hF hS
 refine wpList_nil ?_
 refine hK2 _ _ ?_
 clear hK2
 refine wp_seq_k ?_; intro K3 hK3
 refine regl ?_
 refine wpl_sq hF hS (sq rfl (q_move rfl) <|
   sq rfl (q_move rfl) <|
   sq_end) ?_
 clear hF hS; intro a w hF hS
 refine wpl_ef hF hS rfl (ef_append ty52 ty5 0 rfl rfl rfl (src_str ty9 _) bQ rfl (by decide)) ?_
 clear hF hS; rintro v3 _ _ a w ⟨rfl, rfl⟩ hF hS
 replace hS : St _ [] [_] _ := hS
 refine wpl_sq hF hS (sq rfl (q_assign rfl) <|
   sq_end) ?_
 clear hF hS; intro a w hF hS
 refine wpList_nil ?_
 rw [← List.map_append] at hS
 refine hK3 _ _ ?_
 clear hK3
 refine wp_seq_k ?_; intro K4 hK4
 refine regl ?_
 refine wpl_sq hF hS (sq rfl (q_move rfl) <|
   sq_end) ?_
 clear hF hS; intro a w hF hS
 refine wpl_ef hF hS rfl (ef_call fn64 rfl (fun w hS => rpadk_ct _ 92 (by first | with_reducible assumption | omega) w (hS.ext _ _ hg0))) ?_
 clear hF hS; rintro v4 _ _ a w ⟨_, _, rfl, rfl, rfl, rfl⟩ hF hS
 replace hS : St _ [] [_, _] _ := hS
 refine wpl_sq hF hS (sq rfl (q_assign rfl) <|
   sq_end) ?_
 clear hF hS; intro a w hF hS
 refine wpList_nil ?_
 refine hK4 _ _ ?_
 clear hK4
 refine wp_seq_k ?_; intro K5 hK5
 refine regl ?_
 refine wpl_sq hF hS (sq rfl (q_move rfl) <|
   sq rfl (q_move rfl) <|
   sq rfl (q_call fn66 rfl (fun w hS => rsum_ct _ _ (by first | assumption | omega) w (own_slV (hS.own _ (List.mem_of_getElem? (i := 1) rfl)).1 (by first | assumption | (simp; done)) (by first | rfl | (simp; done) | (simp; omega) | omega) (by first | omega | (simp; omega))) (hS.ext _ _ hg0)) (fun _ _ _ h => h)) <|
   sq rfl (q_call fn65 rfl (fun w hS => rb32_ct _ (by first | with_reducible assumption | omega | (simp; omega)) w ) (fun _ _ _ h => h)) <|
   sq_end) ?_
 clear hF hS; intro a w hF hS
 refine wpl_ef hF hS rfl (ef_append ty52 ty5 0 rfl rfl rfl (src_str ty9 _) bQ rfl (by decide)) ?_
 clear hF hS; rintro v6 _ _ a w ⟨rfl, rfl⟩ hF hS
 replace hS : St _ [] [_, _] _ := hS
 refine wpl_sq hF hS (sq rfl (q_assign rfl) <|
   sq_end) ?_
 clear hF hS; intro a w hF hS
 refine wpList_nil ?_
 rw [← List.map_append, hs1] at hS
 refine hK5 _ _ ?_
 clear hK5
 refine wp_seq_k ?_; intro K6 hK6
 refine reg hF hS (sq rfl (q_move rfl) <|
   sq rfl (q_call fn66 rfl (fun w hS => rsum_ct _ _ (by first | assumption | omega) w (own_slV (hS.own _ (List.mem_of_getElem? (i := 0) rfl)).1 (by first | assumption | (simp; done)) (by first | rfl | (simp; done) | (simp; omega) | omega) (by first | omega | (simp; omega))) (hS.ext _ _ hg0)) (fun _ _ _ h => h)) <|
   sq rfl (q_call fn65 rfl (fun w hS => rb32_ct _ (by first | with_reducible assumption | omega | (simp; omega)) w ) (fun _ _ _ h => h)) <|
   sq rfl (q_assign rfl) <|
   sq_end) ?_
 clear hF hS; intro a w hF hS
 refine hK6 _ _ ?_
 clear hK6
 refine wp_ret ?_
 exact fn_ret (rs := [.tmp 4]) rfl hF hS (vs := [_]) ⟨rfl, trivial⟩ zQ zQ (by rw [Sha.mac_ref])
end Go.Proofs.YtlopocmpcmkdkaaDoor
