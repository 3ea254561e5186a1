/- A text of a proof over this seat: walks over the program's functions and the plain laws that they need. -/
import Derived.Test.YtngcjojijaknnaaGreatDoorLl2
import Derived.Test.YtngcjojijaknnaaGreatDoorLgA
import Derived.Test.YtngcjojijaknnaaGreatDoorFwG
import Derived.Test.YtngcjojijaknnaaGreatDoorMkA
import Derived.Test.YtngcjojijaknnaaGreatDoorFwD
import Derived.Test.YtngcjojijaknnaaGreatDoorFwB
import Derived.Test.YtngcjojijaknnaaGreatDoorFwC
set_option linter.all false
namespace Go.Proofs.YtngcjojijaknnaaGreatDoor
open Go.Fw
theorem ty45 : Tf Tryz.prog 45 (.pointer 119) 1 8 (Value.pointer none) := ⟨Tryz.underlying45, by kernel_rfl⟩
theorem ty119 : Tf Tryz.prog 119 (.struct #[⟨ "journal", 97, 0, false, "", "culprit/ledger", 0⟩, ⟨ "facts", 26, 1, false, "", "culprit/ledger", 8⟩]) 2 32 (.agg ([Value.pointer none] ++ [Value.slice none 0 0]).toArray) := ⟨Tryz.underlying119, by kernel_rfl⟩
theorem ty135 : Tf Tryz.prog 135 (.map 9 9) 1 8 (Value.map none) := ⟨Tryz.underlying135, by kernel_rfl⟩
theorem fn65 : FnOk Tryz.prog 65 := ⟨_, Tryz.func65, rfl, by kernel_rfl⟩
theorem fn73 : FnOk Tryz.prog 73 := ⟨_, Tryz.func73, rfl, by kernel_rfl⟩
theorem fn111 : FnOk Tryz.prog 111 := ⟨_, Tryz.func111, rfl, by kernel_rfl⟩
theorem fn112 : FnOk Tryz.prog 112 := ⟨_, Tryz.func112, rfl, by kernel_rfl⟩

set_option maxRecDepth 4000 in
set_option maxHeartbeats 2000000 in
theorem clock_ct (b : Nat) (pj v : Value) (l : List Lg.Fct) (w : World) {bt : TypeId} {fz : Nat × Nat} (hl : w.heap[b]? = some (.cells [pj, v].toArray bt fz)) (hb : Sl Go.Fw.encY (ph w) v l) : Ct Tryz.prog 33 [.pointer (some ⟨b, 0, none⟩)] w (fun r _ _ => r = vi (Lg.clock l)) := by
 refine fn_enter Tryz.func33 rfl Tryz.ntmps33 (Nat.le_of_ble_eq_true rfl) fun a hF hS => ?_
 have hbl := hb.1
 refine wp_seq_k ?_; intro K1 hK1
 refine reg hF hS (sq rfl (q_assign rfl) <|
   sq_end) ?_
 clear hF hS; intro a w hF hS
 refine hK1 _ _ ?_
 clear hK1
 refine wp_seq_k ?_; intro K2 hK2
 refine wp_seq_k ?_; intro K3 hK3
 refine reg hF hS (sq rfl (q_move rfl) <|
   sq rfl (q_eqpn_f ty45 rfl rfl) <|
   sq rfl (q_move rfl) <|
   sq_go 5 rfl rfl rfl (q_move rfl) <|
   sq_go 5 rfl rfl rfl (q_nilCheck rfl) <|
   sq_go 5 rfl rfl rfl (q_fieldAddr ty119 rfl rfl (s' := 0) kQ) <|
   sq_go 5 rfl rfl rfl (q_ld_old1 ty26 rfl hl rfl rfl) <|
   sq_go 5 rfl rfl rfl (q_len_sl ty26 hb rfl) <|
   sq_go 5 rfl rfl rfl (q_eqi rfl rfl) <|
   sq rfl (q_pick_f rfl rfl) <|
   sq_end) ?_
 clear hF hS; intro a w hF hS
 refine hK3 _ _ ?_
 clear hK3
 refine wp_ifd hF rfl (fun hc1 => ?_) (fun hc1 => ?_)
 ·refine wp_seq_k ?_; intro K4 hK4
  refine reg hF hS (sq rfl (q_assign rfl) <|
    sq_end) ?_
  clear hF hS; intro a w hF hS
  refine hK4 _ _ ?_
  clear hK4
  refine wp_ret ?_
  exact fn_ret (rs := [.tmp 2]) rfl hF hS (vs := [_]) ⟨rfl, trivial⟩ zQ zQ (by rw [Lg.clock_0 hc1])
 ·refine wp_skip ?_
  refine hK2 _ _ ?_
  clear hK2
  refine wp_seq_k ?_; intro K5 hK5
  refine regd mixed kQ hF hS (sq rfl (q_move rfl) <|
    sq rfl (q_nilCheck rfl) <|
    sq rfl (q_fieldAddr ty119 rfl rfl (s' := 0) kQ) <|
    sq rfl (q_ld_old1 ty26 rfl hl rfl rfl) <|
    sq rfl (q_move rfl) <|
    sq rfl (q_nilCheck rfl) <|
    sq rfl (q_fieldAddr ty119 rfl rfl (s' := 0) kQ) <|
    sq rfl (q_ld_old1 ty26 rfl hl rfl rfl) <|
    sq rfl (q_len_sl ty26 hb rfl) <|
    sq rfl (q_subi rfl rfl (by omega)) <|
    sq rfl (q_idx_sl ty26 ty24 hb rfl rfl (by omega)) <|
    sq rfl (q_fld_Y ty24 hb rfl (by omega) rfl (s' := 0) kQ) <|
    sq rfl (q_ld_Y0 ty3 hb zin0 rfl rfl (by omega)) <|
    sq rfl (q_assign rfl) <|
    sq_end) ?_
  clear hF hS; intro a w hF hS
  refine hK5 _ _ ?_
  clear hK5
  refine wp_ret ?_
  exact fn_ret (rs := [.tmp 2]) rfl hF hS (vs := [_]) ⟨rfl, trivial⟩ zQ zQ (by rw [Lg.clock_1 hc1])

set_option maxRecDepth 4000 in
set_option maxHeartbeats 2000000 in
theorem search_ct (n m : Nat) (fv : Value) (q : Int → Prop) (p : Int → Bool) (hn : n ≤ 1048576) (hm : m ≤ n) (hq : ∀ i : Int, 0 ≤ i → i < n → q i) (hp : ∀ k : Int, 0 ≤ k → k < n → p k = decide ((m : Int) ≤ k)) (w : World) (hf : Fn1 Tryz.prog w fv q p) : Ct Tryz.prog 111 [vi (n : Int), fv] w (fun r _ _ => r = vi (m : Int)) := by
 refine fn_enter Tryz.func111 rfl Tryz.ntmps111 (Nat.le_of_ble_eq_true rfl) fun a hF hS => ?_
 refine wp_seq_k ?_; intro K1 hK1
 refine reg hF hS (sq rfl (q_assign rfl) <|
   sq_end) ?_
 clear hF hS; intro a w hF hS
 refine hK1 _ _ ?_
 clear hK1
 refine wp_seq_k ?_; intro K2 hK2
 refine reg hF hS (sq rfl (q_move rfl) <|
   sq rfl (q_assign rfl) <|
   sq rfl (q_assign rfl) <|
   sq_end) ?_
 clear hF hS; intro a w hF hS
 refine hK2 _ _ ?_
 clear hK2
 refine wp_seq_k ?_; intro K3 hK3
 refine wp_block ?_
 obtain ⟨hs0, hhs0, hS⟩ : ∃ h, h = _ ∧ St _ _ h _ := ⟨_, rfl, hS⟩
 refine wp_loopx (γ := Int × Int) (0, n) (fun (gg : Int × Int) => match gg with | (i, j) => [(5, vi i), (6, vi j)]) [(1, _)] (fun (gg : Int × Int) => match gg with | (i, j) => hs0) (fun (gg : Int × Int) => match gg with | (i, j) => 0 ≤ i ∧ i ≤ m ∧ m ≤ j ∧ j ≤ n) (fun (gg : Int × Int) => match gg with | (i, j) => (j - i).toNat) (hF.sub ⟨rfl, rfl, rfl, trivial⟩) (by subst hhs0; exact hS) (by omega) ?_
 clear hF hS; rintro ⟨i, j⟩ a w hfact hF hS
 subst hhs0; (try dsimp only at hfact); (try dsimp only at hF); (try dsimp only at hS)
 obtain ⟨hi0, him, hmj, hjn⟩ := hfact
 replace hS : St _ [] [] _ := hS
 refine wp_seq_k ?_; intro K4 hK4
 refine wp_seq_k ?_; intro K5 hK5
 refine reg hF hS (sq rfl (q_move rfl) <|
   sq rfl (q_move rfl) <|
   sq rfl (q_lti rfl rfl) <|
   sq_end) ?_
 clear hF hS; intro a w hF hS
 refine hK5 _ _ ?_
 clear hK5
 refine wp_ifd hF rfl (fun hc1 => ?_) (fun hc1 => ?_)
 ·refine wp_skip ?_
  refine hK4 _ _ ?_
  clear hK4
  refine wp_block ?_
  refine wp_seq_k ?_; intro K6 hK6
  refine reg hF hS (sq rfl (q_move rfl) <|
    sq rfl (q_move rfl) <|
    sq rfl (q_addi rfl rfl (by omega)) <|
    sq rfl (q_cv_iq ty3 ty113 rfl) <|
    sq rfl (q_shrq rfl rfl (by omega)) <|
    sq rfl (q_cv_qi ty113 ty3 rfl) <|
    sq rfl (q_assign rfl) <|
    sq_end) ?_
  clear hF hS; intro a w hF hS
  rw [Mk.mid_eq (by omega) (by omega)] at hF
  refine hK6 _ _ ?_
  clear hK6
  refine wp_seq_k ?_; intro K7 hK7
  refine reg hF hS (sq rfl (q_move rfl) <|
    sq rfl (q_move rfl) <|
    sq rfl (q_fn1 hf rfl rfl (hq _ (by omega) (by omega))) <|
    sq rfl (q_not rfl) <|
    sq_end) ?_
  clear hF hS; intro a w hF hS
  refine hK7 _ _ ?_
  clear hK7
  refine wp_if hF rfl (fun hc2 => ?_) (fun hc2 => ?_)
  ·refine reg hF hS (sq rfl (q_move rfl) <|
     sq rfl (q_addi rfl rfl (by omega)) <|
     sq rfl (q_assign rfl) <|
     sq_end) ?_
   clear hF hS; intro a w hF hS
   refine ⟨((i + j) / 2 + 1, j), ?_, ?_, hF.sub ⟨rfl, rfl, rfl, trivial⟩, ?_⟩
   ·(try dsimp only); omega
   ·have hp9 := hp ((i + j) / 2) (by omega) (by omega)
    rw [show p ((i + j) / 2) = false by simpa using hc2] at hp9
    have hp8 := of_decide_eq_false hp9.symm
    omega
   ·exact hS
  ·refine reg hF hS (sq rfl (q_move rfl) <|
     sq rfl (q_assign rfl) <|
     sq_end) ?_
   clear hF hS; intro a w hF hS
   refine ⟨(i, (i + j) / 2), ?_, ?_, hF.sub ⟨rfl, rfl, rfl, trivial⟩, ?_⟩
   ·(try dsimp only); omega
   ·have hp9 := hp ((i + j) / 2) (by omega) (by omega)
    rw [show p ((i + j) / 2) = true by simpa using hc2] at hp9
    have hp8 := of_decide_eq_true hp9.symm
    omega
   ·exact hS
 ·refine wp_exit ?_
  refine hK3 _ _ ?_
  clear hK3
  refine wp_seq_k ?_; intro K8 hK8
  refine reg hF hS (sq rfl (q_move rfl) <|
    sq rfl (q_assign rfl) <|
    sq_end) ?_
  clear hF hS; intro a w hF hS
  refine hK8 _ _ ?_
  clear hK8
  refine wp_ret ?_
  exact fn_ret (rs := [.tmp 4]) rfl hF hS (vs := [_]) ⟨rfl, trivial⟩ zQ zQ (by rw [show i = (m : Int) by omega])

set_option maxRecDepth 4000 in
set_option maxHeartbeats 2000000 in
theorem until1_ct (b : Nat) (pj v : Value) (l : List Lg.Fct) (e1 e2 : Nat) (tick i : Int) {bte1 bte2 : TypeId} {fze1 fze2 : Nat × Nat} (hi : 0 ≤ i ∧ i < l.length) (w : World) (hb1 : w.heap[e1]? = some (.cells [Value.pointer (some ⟨b, 0, none⟩)].toArray bte1 fze1)) {bt : TypeId} {fz : Nat × Nat} (hl : w.heap[b]? = some (.cells [pj, v].toArray bt fz)) (hb : Sl Go.Fw.encY (ph w) v l) (hb2 : w.heap[e2]? = some (.cells [vi tick].toArray bte2 fze2)) : Ct Tryz.prog 112 [vi i, .pointer (some ⟨e1, 0, none⟩), .pointer (some ⟨e2, 0, none⟩)] w (fun r _ _ => r = .bool (decide (tick < (l.getD i.toNat Lg.f0).tk))) := by
 refine fn_enter Tryz.func112 rfl Tryz.ntmps112 (Nat.le_of_ble_eq_true rfl) fun a hF hS => ?_
 have hbl := hb.1
 refine wp_seq_k ?_; intro K1 hK1
 refine reg hF hS (sq rfl (q_assign rfl) <|
   sq_end) ?_
 clear hF hS; intro a w hF hS
 refine hK1 _ _ ?_
 clear hK1
 refine wp_seq_k ?_; intro K2 hK2
 refine regd mixed kQ hF hS (sq rfl (q_ld_old1 ty45 rfl hb1 rfl rfl) <|
   sq rfl (q_nilCheck rfl) <|
   sq rfl (q_fieldAddr ty119 rfl rfl (s' := 0) kQ) <|
   sq rfl (q_ld_old1 ty26 rfl hl rfl rfl) <|
   sq rfl (q_move rfl) <|
   sq rfl (q_idx_sl ty26 ty24 hb rfl rfl (by omega)) <|
   sq rfl (q_fld_Y ty24 hb rfl (by omega) rfl (s' := 0) kQ) <|
   sq rfl (q_ld_Y0 ty3 hb zin0 rfl rfl (by omega)) <|
   sq rfl (q_ld_old1 ty3 rfl hb2 rfl rfl) <|
   sq rfl (q_gti rfl rfl) <|
   sq rfl (q_assign rfl) <|
   sq_end) ?_
 clear hF hS; intro a w hF hS
 refine hK2 _ _ ?_
 clear hK2
 refine wp_ret ?_
 exact fn_ret (rs := [.tmp 4]) rfl hF hS (vs := [_]) ⟨rfl, trivial⟩ zQ zQ (rfl)

set_option maxRecDepth 4000 in
set_option maxHeartbeats 2000000 in
theorem until_ct (b : Nat) (pj v : Value) (l : List Lg.Fct) (tick : Int) (hG : l.Pairwise (fun f g => f.tk ≤ g.tk)) (hl9 : l.length ≤ 1048576) (w : World) {bt : TypeId} {fz : Nat × Nat} (hl : w.heap[b]? = some (.cells [pj, v].toArray bt fz)) (hb : Sl Go.Fw.encY (ph w) v l) : Ct Tryz.prog 73 [.pointer (some ⟨b, 0, none⟩), vi tick] w (fun r _ _ => r = slV v 3 0 (Lg.cnt l tick)) := by
 refine fn_enter Tryz.func73 rfl Tryz.ntmps73 (Nat.le_of_ble_eq_true rfl) fun a hF hS => ?_
 have hbl := hb.1
 have hcl := Lg.cnt_le l tick
 refine wp_seq_k ?_; intro K1 hK1
 refine regl ?_
 refine wpl_ef hF hS rfl (ef_box1 rfl rfl) ?_
 clear hF hS; rintro _ _ _ a w ⟨b1, rfl, rfl, rfl⟩ hF hS
 refine wpl_ef hF hS rfl (ef_box1 rfl rfl) ?_
 clear hF hS; rintro _ _ _ a w ⟨b2, rfl, rfl, rfl⟩ hF hS
 refine wpl_sq hF hS (sq rfl (q_assign rfl) <|
   sq_end) ?_
 clear hF hS; intro a w hF hS
 refine wpList_nil ?_
 refine hK1 _ _ ?_
 clear hK1
 refine wp_seq_k ?_; intro K2 hK2
 refine wp_seq_k ?_; intro K3 hK3
 refine reg hF hS (sq rfl (q_ld_blk1 ty45 1 rfl rfl rfl rfl) <|
   sq rfl (q_eqpn_f ty45 rfl rfl) <|
   sq_end) ?_
 clear hF hS; intro a w hF hS
 refine hK3 _ _ ?_
 clear hK3
 refine wp_if hF rfl (fun h => absurd h (by simp)) (fun _ => ?_)
 refine wp_skip ?_
 refine hK2 _ _ ?_
 clear hK2
 refine wp_seq_k ?_; intro K4 hK4
 refine regd mixed kQ hF hS (sq rfl (q_ld_blk1 ty45 1 rfl rfl rfl rfl) <|
   sq rfl (q_nilCheck rfl) <|
   sq rfl (q_fieldAddr ty119 rfl rfl (s' := 0) kQ) <|
   sq rfl (q_ld_old1 ty26 rfl hl rfl rfl) <|
   sq rfl (q_ld_blk1 ty45 1 rfl rfl rfl rfl) <|
   sq rfl (q_nilCheck rfl) <|
   sq rfl (q_fieldAddr ty119 rfl rfl (s' := 0) kQ) <|
   sq rfl (q_ld_old1 ty26 rfl hl rfl rfl) <|
   sq rfl (q_len_sl ty26 hb rfl) <|
   sq rfl (q_mkf rfl rfl) <|
   sq rfl (q_call fn111 rfl (fun w hS => search_ct l.length (Lg.cnt l tick) _ (fun x => 0 ≤ x ∧ x < l.length) (fun x => decide (tick < (l.getD x.toNat Lg.f0).tk)) (by omega) (by omega) (fun i h1 h2 => ⟨h1, h2⟩) (Lg.cnt_p hG tick) w ⟨112, [], [_, _], rfl, fn112, fun w' hle x0 hq => until1_ct _ _ _ _ _ _ _ _ hq w' (hle _ _ (own_box hS 1 rfl)) (hle _ _ (hS.ext _ _ hl)) (Sl.mono (PH.le_tr (hS.le zin0) hle) hb) (hle _ _ (own_box hS 0 rfl))⟩) (fun _ _ _ h => h)) <|
   sq rfl (q_slsl_hi ty26 ty24 hb rfl rfl (by omega)) <|
   sq rfl (q_assign rfl) <|
   sq_end) ?_
 clear hF hS; intro a w hF hS
 refine hK4 _ _ ?_
 clear hK4
 refine wp_ret ?_
 exact fn_ret (rs := [.tmp 4]) rfl hF hS (vs := [_]) ⟨rfl, trivial⟩ zQ zQ (rfl)

set_option maxRecDepth 4000 in
set_option maxHeartbeats 2000000 in
theorem clonef_ct (v : Value) (l : List Lg.Fct) (hl : l.length < 1048576) (w : World) (hb : Sl Go.Fw.encY (ph w) v l) : Ct Tryz.prog 65 [v] w (fun r zs hs => zs = [] ∧ hs = [.row r 24 3 (l).length ((l).flatMap Lg.fcC)]) := by
 refine fn_enter Tryz.func65 rfl Tryz.ntmps65 (Nat.le_of_ble_eq_true rfl) fun a hF hS => ?_
 have hbl := hb.1
 refine wp_seq_k ?_; intro K1 hK1
 refine reg hF hS (sq rfl (q_assign rfl) <|
   sq_end) ?_
 clear hF hS; intro a w hF hS
 refine hK1 _ _ ?_
 clear hK1
 refine wp_seq_k ?_; intro K2 hK2
 refine wp_seq_k ?_; intro K3 hK3
 refine reg hF hS (sq rfl (q_move rfl) <|
   sq rfl (q_eqnil ty26 hb rfl rfl) <|
   sq_end) ?_
 clear hF hS; intro a w hF hS
 refine hK3 _ _ ?_
 clear hK3
 refine wp_if hF rfl (fun hc1 => ?_) (fun hc1 => ?_)
 ·obtain rfl := nilS_nil hb hc1
  refine wp_seq_k ?_; intro K4 hK4
  refine reg hF hS (sq rfl (q_assign rfl) <|
    sq_end) ?_
  clear hF hS; intro a w hF hS
  replace hS := hS.nilRow 24 3
  refine hK4 _ _ ?_
  clear hK4
  refine wp_ret ?_
  exact fn_ret (rs := [.tmp 2]) rfl hF hS (vs := [_]) ⟨rfl, trivial⟩ zQ sQ ⟨rfl, rfl⟩
 ·refine wp_skip ?_
  refine hK2 _ _ ?_
  clear hK2
  refine wp_seq_k ?_; intro K5 hK5
  refine regl ?_
  refine wpl_ef hF hS rfl (ef_bslice0 ty26 ty24) ?_
  clear hF hS; rintro v1 _ _ a w ⟨rfl, rfl⟩ hF hS
  replace hS : St _ [] [_] _ := hS
  refine wpl_sq hF hS (sq rfl (q_move rfl) <|
    sq_end) ?_
  clear hF hS; intro a w hF hS
  refine wpl_ef hF hS rfl (ef_append ty26 ty24 0 rfl rfl rfl (src_slK ty26 hb zin0 (by decide)) bQ rfl (by decide)) ?_
  clear hF hS; rintro v3 _ _ a w ⟨rfl, rfl⟩ hF hS
  replace hS : St _ [] [_] _ := hS
  refine wpl_sq hF hS (sq rfl (q_assign rfl) <|
    sq_end) ?_
  clear hF hS; intro a w hF hS
  refine wpList_nil ?_
  replace hS := hS.rowEq (Nat.zero_add _) (List.nil_append _)
  refine hK5 _ _ ?_
  clear hK5
  refine wp_ret ?_
  exact fn_ret (rs := [.tmp 2]) rfl hF hS (vs := [_]) ⟨rfl, trivial⟩ zQ sQ ⟨rfl, rfl⟩

set_option maxRecDepth 4000 in
set_option maxHeartbeats 2000000 in
theorem facts_ct (b : Nat) (pj v : Value) (l : List Lg.Fct) (hl9 : l.length < 1048576) (w : World) {bt : TypeId} {fz : Nat × Nat} (hl : w.heap[b]? = some (.cells [pj, v].toArray bt fz)) (hb : Sl Go.Fw.encY (ph w) v l) : Ct Tryz.prog 26 [.pointer (some ⟨b, 0, none⟩)] w (fun r zs hs => zs = [] ∧ hs = [.row r 24 3 (l).length ((l).flatMap Lg.fcC)]) := by
 refine fn_enter Tryz.func26 rfl Tryz.ntmps26 (Nat.le_of_ble_eq_true rfl) fun a hF hS => ?_
 have hbl := hb.1
 refine wp_seq_k ?_; intro K1 hK1
 refine reg hF hS (sq rfl (q_assign rfl) <|
   sq_end) ?_
 clear hF hS; intro a w hF hS
 refine hK1 _ _ ?_
 clear hK1
 refine wp_seq_k ?_; intro K2 hK2
 refine wp_seq_k ?_; intro K3 hK3
 refine reg hF hS (sq rfl (q_move rfl) <|
   sq rfl (q_eqpn_f ty45 rfl rfl) <|
   sq_end) ?_
 clear hF hS; intro a w hF hS
 refine hK3 _ _ ?_
 clear hK3
 refine wp_if hF rfl (fun h => absurd h (by simp)) (fun _ => ?_)
 refine wp_skip ?_
 refine hK2 _ _ ?_
 clear hK2
 refine wp_seq_k ?_; intro K4 hK4
 refine regl ?_
 refine wpl_sq hF hS (sq rfl (q_move rfl) <|
   sq rfl (q_nilCheck rfl) <|
   sq rfl (q_fieldAddr ty119 rfl rfl (s' := 0) kQ) <|
   sq rfl (q_ld_old1 ty26 rfl hl rfl rfl) <|
   sq_end) ?_
 clear hF hS; intro a w hF hS
 refine wpl_ef hF hS rfl (ef_call fn65 rfl (fun w hS => clonef_ct _ _ (by omega) w (Sl.mono (hS.le zin0) hb))) ?_
 clear hF hS; rintro v1 _ _ a w ⟨_, _, rfl, rfl, ⟨rfl, rfl⟩⟩ hF hS
 replace hS : St _ [] [_] _ := hS
 refine wpl_sq hF hS (sq rfl (q_assign rfl) <|
   sq_end) ?_
 clear hF hS; intro a w hF hS
 refine wpList_nil ?_
 refine hK4 _ _ ?_
 clear hK4
 refine wp_ret ?_
 exact fn_ret (rs := [.tmp 2]) rfl hF hS (vs := [_]) ⟨rfl, trivial⟩ zQ sQ ⟨rfl, rfl⟩

set_option maxRecDepth 4000 in
set_option maxHeartbeats 2000000 in
theorem known_ct (b : Nat) (pj v : Value) (l : List Lg.Fct) (tick : Int) (hG : l.Pairwise (fun f g => f.tk ≤ g.tk)) (hl9 : l.length ≤ 1048576) (w : World) {bt : TypeId} {fz : Nat × Nat} (hl : w.heap[b]? = some (.cells [pj, v].toArray bt fz)) (hb : Sl Go.Fw.encY (ph w) v l) : Ct Tryz.prog 69 [.pointer (some ⟨b, 0, none⟩), vi tick] w (fun r zs hs => ∃ bm es ec, r = .map (some bm) ∧ zs = [] ∧ hs = [.mp bm es ec] ∧ MpT vs (Lg.mpN (Lg.untl l tick) (Lg.untl l tick).length) es ec) := by
 refine fn_enter Tryz.func69 rfl Tryz.ntmps69 (Nat.le_of_ble_eq_true rfl) fun a hF hS => ?_
 have hbl := hb.1
 have hul := unt_len (l := l) (t := tick)
 refine wp_seq_k ?_; intro K1 hK1
 refine reg hF hS (sq rfl (q_assign rfl) <|
   sq_end) ?_
 clear hF hS; intro a w hF hS
 refine hK1 _ _ ?_
 clear hK1
 refine wp_seq_k ?_; intro K2 hK2
 refine regl ?_
 refine wpl_ef hF hS rfl (ef_mkmap) ?_
 clear hF hS; rintro _ _ _ a w ⟨b1, rfl, rfl, rfl⟩ hF hS
 replace hS : St _ [] [_] _ := hS
 refine wpl_sq hF hS (sq rfl (q_assign rfl) <|
   sq_end) ?_
 clear hF hS; intro a w hF hS
 refine wpList_nil ?_
 refine hK2 _ _ ?_
 clear hK2
 refine wp_seq_k ?_; intro K3 hK3
 refine wp_seq_k ?_; intro K4 hK4
 refine reg hF hS (sq rfl (q_move rfl) <|
   sq rfl (q_move rfl) <|
   sq rfl (q_call fn73 rfl (fun w hS => until_ct _ _ _ _ _ hG hl9 w (hS.ext _ _ hl) (Sl.mono (hS.le zin0) hb)) (fun _ _ _ h => h)) <|
   sq rfl (q_len_sl ty26 (unt_sl hb) rfl) <|
   sq rfl (q_move rfl) <|
   sq_end) ?_
 clear hF hS; intro a w hF hS
 refine hK4 _ _ ?_
 clear hK4
 refine wp_block ?_
 obtain ⟨hs0, hhs0, hS⟩ : ∃ h, h = _ ∧ St _ _ h _ := ⟨_, rfl, hS⟩
 refine wp_loopx (γ := List MapEntry × Nat × Nat) ([], 0, 0) (fun (gg : List MapEntry × Nat × Nat) => match gg with | (es, ec, k) => [(13, vi (k : Int))]) [(5, _), (11, _), (12, _)] (fun (gg : List MapEntry × Nat × Nat) => match gg with | (es, ec, k) => (hs0.set 0 (.mp b1 es ec))) (fun (gg : List MapEntry × Nat × Nat) => match gg with | (es, ec, k) => k ≤ (Lg.untl l tick).length ∧ MpT vs (Lg.mpN (Lg.untl l tick) k) es ec) (fun (gg : List MapEntry × Nat × Nat) => match gg with | (es, ec, k) => (Lg.untl l tick).length - k) (hF.sub ⟨rfl, rfl, rfl, rfl, trivial⟩) (by subst hhs0; exact hS) (by exact ⟨Nat.zero_le _, MpT.nil⟩) ?_
 clear hF hS; rintro ⟨es, ec, k⟩ a w hfact hF hS
 subst hhs0; (try dsimp only at hfact); (try dsimp only at hF); (try dsimp only at hS)
 obtain ⟨hk0, hMm⟩ := hfact
 replace hS : St _ [] [_] _ := hS
 refine wp_seq_k ?_; intro K5 hK5
 refine reg hF hS (sq rfl (q_lti rfl rfl) <|
   sq_end) ?_
 clear hF hS; intro a w hF hS
 refine hK5 _ _ ?_
 clear hK5
 refine wp_seq_k ?_; intro K6 hK6
 refine wp_ifd hF rfl (fun hc1 => ?_) (fun hc1 => ?_)
 ·refine wp_skip ?_
  refine hK6 _ _ ?_
  clear hK6
  refine wp_seq_k ?_; intro K7 hK7
  refine wp_block ?_
  refine wp_seq_k ?_; intro K8 hK8
  refine regl ?_
  refine wpl_sq hF hS (sq rfl (q_idx_sl ty26 ty24 (unt_sl hb) rfl rfl (by omega)) <|
    sq rfl (q_ld_Y ty24 (unt_sl hb) zin0 rfl rfl (by omega)) <|
    sq_end) ?_
  clear hF hS; intro a w hF hS
  refine wpl_ef hF hS rfl (ef_allocA ty24) ?_
  clear hF hS; rintro _ _ _ a w ⟨b3, rfl, rfl, rfl⟩ hF hS
  refine wpl_ef hF hS rfl (ef_storeW ty24 0 rfl rfl rfl rfl bQ (oc_cons rfl (oc_cons rfl (oc_cons rfl oc_nil))) bQ) ?_
  clear hF hS; rintro _ _ _ a w ⟨rfl, rfl, rfl⟩ hF hS
  replace hS : St _ [] [_, _] _ := hS
  refine wpList_nil ?_
  refine hK8 _ _ ?_
  clear hK8
  refine regl ?_
  refine wpl_sq hF hS (sq rfl (q_move rfl) <|
    sq rfl (q_fieldAddr ty24 rfl rfl (s' := 0) kQ) <|
    sq rfl (q_ld_blk1 ty9 0 rfl rfl rfl rfl) <|
    sq rfl (q_fieldAddr ty24 rfl rfl (s' := 0) kQ) <|
    sq rfl (q_ld_blk1 ty9 0 rfl rfl rfl rfl) <|
    sq_end) ?_
  clear hF hS; intro a w hF hS
  refine wpl_ef hF hS rfl (ef_mapsetT ty135 (key_S ty9) 1 rfl rfl rfl rfl hMm (fun _ _ => trivial) trivial) ?_
  clear hF hS; rintro _ _ _ a w ⟨es1, ec1, hM1, rfl, rfl, rfl⟩ hF hS
  replace hS : St _ [] [_, _] _ := hS
  refine wpList_nil ?_
  refine hK7 _ _ ?_
  clear hK7
  refine reg hF hS (sq rfl (q_addi rfl rfl (by omega)) <|
    sq rfl (q_move rfl) <|
    sq_end) ?_
  clear hF hS; intro a w hF hS
  replace hS := hS.keep zQ (sQ.n)
  refine ⟨(es1, ec1, k + 1), ?_, ?_, hF.sub ⟨rfl, rfl, rfl, rfl, trivial⟩, ?_⟩
  ·(try dsimp only); omega
  ·exact ⟨by omega, by rw [Lg.mp_succ (by omega)]; exact hM1⟩
  ·exact hS
 ·refine wp_exit ?_
  refine hK3 _ _ ?_
  clear hK3
  refine wp_seq_k ?_; intro K9 hK9
  refine reg hF hS (sq rfl (q_move rfl) <|
    sq rfl (q_assign rfl) <|
    sq_end) ?_
  clear hF hS; intro a w hF hS
  refine hK9 _ _ ?_
  clear hK9
  refine wp_ret ?_
  obtain rfl : k = (Lg.untl l tick).length := by omega
  exact fn_ret (rs := [.tmp 4]) rfl hF hS (vs := [_]) ⟨rfl, trivial⟩ zQ sQ ⟨_, _, _, rfl, rfl, rfl, hMm⟩
end Go.Proofs.YtngcjojijaknnaaGreatDoor
