/- A text of a proof over this seat: walks over the program's functions and the plain laws that they need. -/
import Derived.Test.YtdojfnigffeblaaDoorMh14
import Derived.Test.YtdojfnigffeblaaDoorFwB
set_option linter.all false
namespace Go.Proofs.YtdojfnigffeblaaDoor
open Go.Fw
theorem fn83 : FnOk Tryd.prog 83 := ⟨_, Tryd.func83, rfl, by kernel_rfl⟩

attribute [local irreducible] Sha.sum Wi.int

set_option maxRecDepth 4000 in
set_option maxHeartbeats 2000000 in
theorem rbytes_ct (t : List UInt8) (ht : t.length < 1099511627776) (w : World) : Ct Tryd.prog 95 [vs t] w (fun v zs hs => zs = [] ∧ hs = [.row v 5 1 (Wi.bytes t).length ((Wi.bytes t).map vb)]) := by
 refine fn_enter Tryd.func95 rfl Tryd.ntmps95 (Nat.le_of_ble_eq_true rfl) fun a hF hS => ?_
 have hil := Wi.int_len9 t.length
 refine wp_seq_k ?_; intro K1 hK1
 refine reg hF hS (sq rfl (q_assign rfl) <|
   sq_end) ?_
 clear hF hS; intro a w hF hS
 refine hK1 _ _ ?_
 clear hK1
 refine wp_seq_k ?_; intro K2 hK2
 refine regl ?_
 refine wpl_sq hF hS (sq rfl (q_move rfl) <|
   sq rfl (q_len_s ty9 rfl) <|
   sq_end) ?_
 clear hF hS; intro a w hF hS
 refine wpl_ef hF hS rfl (ef_call fn83 rfl (fun w hS => rint_ct _ (by omega) w )) ?_
 clear hF hS; rintro v1 _ _ a w ⟨_, _, rfl, rfl, rfl, rfl⟩ hF hS
 replace hS : St _ [] [_] _ := hS
 refine wpl_sq hF hS (sq rfl (q_move rfl) <|
   sq_end) ?_
 clear hF hS; intro a w hF hS
 refine wpl_ef hF hS rfl (ef_s2b ty9 ty39 ty5 rfl (by omega)) ?_
 clear hF hS; rintro v3 _ _ a w ⟨z4, rfl, rfl, hz5⟩ hF hS
 refine wpl_ef hF hS rfl (ef_append ty39 ty5 0 rfl rfl rfl (src_slV ty39 hz5 (.inr (by simp))) bQ rfl (by decide)) ?_
 clear hF hS; rintro v6 _ _ a w ⟨rfl, rfl⟩ hF hS
 replace hS : St _ [_] [_] _ := hS
 refine wpl_sq hF hS (sq rfl (q_assign rfl) <|
   sq_end) ?_
 clear hF hS; intro a w hF hS
 refine wpList_nil ?_
 refine hK2 _ _ ?_
 clear hK2
 refine wp_ret ?_
 rw [← List.map_append, show (Wi.int t.length).length + t.length = (Wi.bytes t).length by simp [Wi.bytes]] at hS
 exact fn_ret (rs := [.tmp 2]) rfl hF hS (vs := [_]) ⟨rfl, trivial⟩ zQ sQ ⟨rfl, rfl⟩
end Go.Proofs.YtdojfnigffeblaaDoor
