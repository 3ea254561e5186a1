/- A text of a proof over this seat: walks over the program's functions and the plain laws that they need. -/
import Derived.Test.YtlopocmpcmkdkaaDoorSs3
import Derived.Test.YtlopocmpcmkdkaaDoorSiA
import Derived.Test.YtlopocmpcmkdkaaDoorFwB
import Derived.Test.YtlopocmpcmkdkaaDoorFwD
set_option linter.all false
namespace Go.Proofs.YtlopocmpcmkdkaaDoor
open Go.Fw
theorem ty51 : Tf Tryd.prog 51 (.pointer 54) 1 8 (Value.pointer none) := ⟨Tryd.underlying51, by kernel_rfl⟩
theorem ty54 : Tf Tryd.prog 54 (.struct #[⟨ "addr", 51, 0, false, "", "strings", 0⟩, ⟨ "buf", 52, 1, false, "", "strings", 8⟩]) 2 32 (.agg ([Value.pointer none] ++ [Value.slice none 0 0]).toArray) := ⟨Tryd.underlying54, by kernel_rfl⟩
theorem ty79 : Tf Tryd.prog 79 (.pointer 5) 1 8 (Value.pointer none) := ⟨Tryd.underlying79, by kernel_rfl⟩
theorem ty95 : Tf Tryd.prog 95 .unsafePointer 1 8 (Value.pointer none) := ⟨Tryd.underlying95, by kernel_rfl⟩
theorem fn47 : FnOk Tryd.prog 47 := ⟨_, Tryd.func47, rfl, by kernel_rfl⟩

set_option maxRecDepth 4000 in
set_option maxHeartbeats 2000000 in
theorem bcheck_ct (b : Nat) (pa : Option Addr) (u : Value) (hp : pa = none ∨ pa = some ⟨b, 0, none⟩) {w0 : World} {zsr : List PH} : Cx Tryd.prog 47 [.pointer (some ⟨b, 0, none⟩)] w0 zsr [.blk b 54 [.pointer pa, u]] (fun _ zs hs => zs = [] ∧ hs = [.blk b 54 [.pointer (some ⟨b, 0, none⟩), u]]) := by
 refine fn_enterx Tryd.func47 rfl Tryd.ntmps47 (Nat.le_of_ble_eq_true rfl) fun hsr a w hF hS => ?_
 replace hS : St _ (_) (_ :: _) _ := hS
 refine wp_seq_k ?_; intro K1 hK1
 refine reg hF hS (sq rfl (q_move rfl) <|
   sq rfl (q_nilCheck rfl) <|
   sq rfl (q_fieldAddr ty54 rfl rfl (s' := 0) kQ) <|
   sq rfl (q_ld_blk1 ty51 0 rfl rfl rfl rfl) <|
   sq rfl (q_eqpn ty51 rfl rfl) <|
   sq_end) ?_
 clear hF hS; intro a w hF hS
 refine hK1 _ _ ?_
 clear hK1
 refine wp_if hF rfl (fun hc1 => ?_) (fun hc1 => ?_)
 ·obtain rfl : pa = none := by simpa using hc1
  refine regl ?_
  refine wpl_sq hF hS (sq rfl (q_move rfl) <|
    sq rfl (q_move rfl) <|
    sq rfl (q_toun ty51 ty95 ty54 (by decide) 0 rfl (Nat.zero_lt_succ _) rfl) <|
    sq rfl (q_noesc Tryd.func59 kQ rfl kQ kQ rfl) <|
    sq rfl (q_fromun ty95 ty51 ty54 0 rfl kQ rfl) <|
    sq rfl (q_nilCheck rfl) <|
    sq rfl (q_fieldAddr ty54 rfl rfl (s' := 0) kQ) <|
    sq_end) ?_
  clear hF hS; intro a w hF hS
  refine wpl_ef hF hS rfl (ef_store1 ty51 0 rfl rfl rfl rfl (by simp)) ?_
  clear hF hS; rintro _ _ _ a w ⟨rfl, rfl, rfl⟩ hF hS
  replace hS : St _ (_) (.blk _ _ ([_, _].set 0 _) :: _) _ := hS
  simp only [List.set_cons_zero, List.set_cons_succ] at hS
  replace hS : St _ (_) (_ :: _) _ := hS
  refine wpList_nil ?_
  -- falls off the end
  exact fn_fallx rfl hF hS [] [_] sQ sQ ⟨rfl, rfl⟩
 ·obtain rfl : pa = some ⟨b, 0, none⟩ := hp.resolve_left (fun e => by subst e; cases hc1)
  refine wp_seq_k ?_; intro K2 hK2
  refine reg hF hS (sq rfl (q_move rfl) <|
    sq rfl (q_nilCheck rfl) <|
    sq rfl (q_fieldAddr ty54 rfl rfl (s' := 0) kQ) <|
    sq rfl (q_ld_blk1 ty51 0 rfl rfl rfl rfl) <|
    sq rfl (q_move rfl) <|
    sq rfl (q_nepp ty51 ty54 (by decide) rfl rfl) <|
    sq_end) ?_
  clear hF hS; intro a w hF hS
  refine hK2 _ _ ?_
  clear hK2
  refine wp_if hF rfl (fun h => absurd h (by simp)) (fun _ => ?_)
  refine wp_skip ?_
  -- falls off the end
  exact fn_fallx rfl hF hS [] [_] sQ sQ ⟨rfl, rfl⟩

set_option maxRecDepth 4000 in
set_option maxHeartbeats 2000000 in
theorem bwrite_ct (b : Nat) (pa : Option Addr) (u : Value) (v : Value) (xs ys : List UInt8) (hp : pa = none ∨ pa = some ⟨b, 0, none⟩) (hl9 : xs.length + ys.length < 1048576) {w0 : World} {zsr : List PH} {z : PH} (hy : Sl encB z v ys) (hz : ZIn w0 zsr z) : Cx Tryd.prog 25 [.pointer (some ⟨b, 0, none⟩), v] w0 zsr [.blk b 54 [.pointer pa, u], .row u 5 1 (xs).length ((xs).map vb)] (fun _ zs hs => ∃ u1, zs = [] ∧ hs = [.blk b 54 [.pointer (some ⟨b, 0, none⟩), u1], .row u1 5 1 (xs ++ ys).length ((xs ++ ys).map vb)]) := by
 refine fn_enterx Tryd.func25 rfl Tryd.ntmps25 (Nat.le_of_ble_eq_true rfl) fun hsr a w hF hS => ?_
 replace hS : St _ (_) (_ :: _ :: _) _ := hS
 refine wp_seq_k ?_; intro K1 hK1
 refine reg hF hS (sq rfl (q_assign rfl) <|
   sq rfl (q_assign rfl) <|
   sq_end) ?_
 clear hF hS; intro a w hF hS
 refine hK1 _ _ ?_
 clear hK1
 refine wp_seq_k ?_; intro K2 hK2
 refine regl ?_
 refine wpl_sq hF hS (sq rfl (q_move rfl) <|
   sq_end) ?_
 clear hF hS; intro a w hF hS
 refine wpl_ef hF hS rfl (ef_callxN 1 fn47 rfl (by exact (bcheck_ct _ _ _ (by first | assumption | exact .inl rfl | exact .inr rfl) ))) ?_
 clear hF hS; rintro _ _ _ a w ⟨_, _, rfl, rfl, rfl, rfl⟩ hF hS
 replace hS : St _ (_) (_ :: _ :: _) _ := hS
 refine wpList_nil ?_
 refine hK2 _ _ ?_
 clear hK2
 refine wp_seq_k ?_; intro K3 hK3
 refine regl ?_
 refine wpl_sq hF hS (sq rfl (q_move rfl) <|
   sq rfl (q_move rfl) <|
   sq rfl (q_nilCheck rfl) <|
   sq rfl (q_fieldAddr ty54 rfl rfl (s' := 0) kQ) <|
   sq rfl (q_ld_blk1 ty52 0 rfl rfl rfl rfl) <|
   sq rfl (q_move rfl) <|
   sq_end) ?_
 clear hF hS; intro a w hF hS
 refine wpl_ef hF hS rfl (ef_append ty52 ty5 1 rfl rfl rfl (src_slV ty52 hy hz) bQ rfl (by decide)) ?_
 clear hF hS; rintro v2 _ _ a w ⟨rfl, rfl⟩ hF hS
 replace hS : St _ (_) (_ :: _ :: _) _ := hS
 refine wpl_sq hF hS (sq rfl (q_nilCheck rfl) <|
   sq rfl (q_fieldAddr ty54 rfl rfl (s' := 0) kQ) <|
   sq_end) ?_
 clear hF hS; intro a w hF hS
 refine wpl_ef hF hS rfl (ef_store1 ty52 0 rfl rfl rfl (row_one (hS.own _ (List.mem_of_getElem? (i := 1) rfl)).1) (by simp)) ?_
 clear hF hS; rintro _ _ _ a w ⟨rfl, rfl, rfl⟩ hF hS
 replace hS : St _ (_) (.blk _ _ ([_, _].set 1 _) :: _ :: _) _ := hS
 simp only [List.set_cons_zero, List.set_cons_succ] at hS
 replace hS : St _ (_) (_ :: _ :: _) _ := hS
 refine wpList_nil ?_
 refine hK3 _ _ ?_
 clear hK3
 refine wp_seq_k ?_; intro K4 hK4
 refine reg hF hS (sq rfl (q_move rfl) <|
   sq rfl (q_len_sl ty52 hy rfl) <|
   sq rfl (q_assign rfl) <|
   sq rfl (q_assign rfl) <|
   sq_end) ?_
 clear hF hS; intro a w hF hS
 refine hK4 _ _ ?_
 clear hK4
 refine wp_ret ?_
 rw [← List.length_append, ← List.map_append] at hS
 exact fn_retx (rs := [.tmp 4, .tmp 5]) rfl hF hS (vs := [_, _]) ⟨rfl, rfl, trivial⟩ [] [_, _] sQ sQ ⟨_, rfl, rfl⟩

set_option maxRecDepth 4000 in
set_option maxHeartbeats 2000000 in
theorem bstring_ct (b : Nat) (pa : Option Addr) (u : Value) (xs : List UInt8) (h0 : 0 < xs.length) (hl9 : xs.length < 1048576) {w0 : World} {zsr : List PH} : Cx Tryd.prog 29 [.pointer (some ⟨b, 0, none⟩)] w0 zsr [.blk b 54 [.pointer pa, u], .row u 5 1 (xs).length ((xs).map vb)] (fun r zs hs => r = vs xs ∧ zs = [] ∧ hs = [.blk b 54 [.pointer pa, u], .row (.slice none 0 0) 5 1 0 []]) := by
 refine fn_enterx Tryd.func29 rfl Tryd.ntmps29 (Nat.le_of_ble_eq_true rfl) fun hsr a w hF hS => ?_
 replace hS : St _ (_) (_ :: _ :: _) _ := hS
 refine wp_seq_k ?_; intro K1 hK1
 refine reg hF hS (sq rfl (q_assign rfl) <|
   sq_end) ?_
 clear hF hS; intro a w hF hS
 refine hK1 _ _ ?_
 clear hK1
 refine wp_seq_k ?_; intro K2 hK2
 refine regt 10 mixed kQ hF hS (sq rfl (q_move rfl) <|
   sq rfl (q_nilCheck rfl) <|
   sq rfl (q_fieldAddr ty54 rfl rfl (s' := 0) kQ) <|
   sq rfl (q_ld_blk1 ty52 0 rfl rfl rfl rfl) <|
   sq rfl (q_usd 1 rfl rfl bQ) <|
   sq rfl (q_move rfl) <|
   sq rfl (q_nilCheck rfl) <|
   sq rfl (q_fieldAddr ty54 rfl rfl (s' := 0) kQ) <|
   sq rfl (q_ld_blk1 ty52 0 rfl rfl rfl rfl) <|
   sq rfl (q_len_row ty52 1 rfl rfl) <|
   sq_end) ?_
 clear hF hS; intro a w hF hS
 refine wpl_ef hF hS rfl (ef_ustr ty79 kQ 1 rfl rfl rfl bQ bQ) ?_
 clear hF hS; rintro _ _ _ a w ⟨rfl, rfl, rfl⟩ hF hS
 replace hS : St _ (_) (_ :: _ :: _) _ := hS
 refine wpl_sq hF hS (sq rfl (q_assign rfl) <|
   sq_end) ?_
 clear hF hS; intro a w hF hS
 refine wpList_nil ?_
 refine hK2 _ _ ?_
 clear hK2
 refine wp_ret ?_
 exact fn_retx (rs := [.tmp 2]) rfl hF hS (vs := [_]) ⟨rfl, trivial⟩ [] [_, _] sQ sQ ⟨rfl, rfl, rfl⟩
end Go.Proofs.YtlopocmpcmkdkaaDoor
