/- A text of a proof over this seat: walks over the program's functions and the plain laws that they need. -/
import Derived.Test.YtlopocmpcmkdkaaDoorSs8
import Derived.Test.YtlopocmpcmkdkaaDoorSiA
import Derived.Test.YtlopocmpcmkdkaaDoorFwB
import Derived.Test.YtlopocmpcmkdkaaDoorFwD
import Derived.Test.YtlopocmpcmkdkaaDoorFwC
set_option linter.all false
namespace Go.Proofs.YtlopocmpcmkdkaaDoor
open Go.Fw
theorem ty69 : Tf Tryd.prog 69 (.func #[3] #[23] false) 1 8 (Value.nilFunc) := ⟨Tryd.underlying69, by kernel_rfl⟩
theorem fn36 : FnOk Tryd.prog 36 := ⟨_, Tryd.func36, rfl, by kernel_rfl⟩
theorem fn37 : FnOk Tryd.prog 37 := ⟨_, Tryd.func37, rfl, by kernel_rfl⟩
theorem fn39 : FnOk Tryd.prog 39 := ⟨_, Tryd.func39, rfl, by kernel_rfl⟩
theorem fn41 : FnOk Tryd.prog 41 := ⟨_, Tryd.func41, rfl, by kernel_rfl⟩

attribute [local irreducible] Sha.sum Sha.mac Sha.ofD Wi.int Wi.ints Wi.bytes Sha.inp Si.leaf Si.nodeD Si.start Si.digs Si.dig Wi.getInt Si.leafD

set_option maxRecDepth 4000 in
set_option maxHeartbeats 2000000 in
theorem ver1_ct (k : Int) (v : Value) (rr : List UInt8) (e1 : Nat) {bte1 : TypeId} {fze1 : Nat × Nat} (hk0 : 0 ≤ k) (hk1 : 16 * k + 16 ≤ rr.length) (hr9 : rr.length < 1048576) (w : World) (hb1 : w.heap[e1]? = some (.cells [v].toArray bte1 fze1)) (hx : Sl encB (ph w) v rr) : Ct Tryd.prog 37 [vi k, .pointer (some ⟨e1, 0, none⟩)] w (fun r _ _ => r = .agg ((Si.vl rr k).map vb).toArray) := by
 refine fn_enter Tryd.func37 rfl Tryd.ntmps37 (Nat.le_of_ble_eq_true rfl) fun a hF hS => ?_
 have h16 := Si.vl_16 hk0 hk1
 refine wp_seq_k ?_; intro K1 hK1
 refine regl ?_
 refine wpl_ef hF hS rfl (ef_allocA ty23) ?_
 clear hF hS; rintro _ _ _ a w ⟨b1, rfl, rfl, rfl⟩ hF hS
 rw [show List.replicate 16 (Value.int .u8 0) = (List.replicate 16 (0 : UInt8)).map vb from by rw [List.map_replicate] <;> rfl] at hS
 refine wpList_nil ?_
 refine hK1 _ _ ?_
 clear hK1
 refine wp_seq_k ?_; intro K2 hK2
 refine regl ?_
 refine wpl_sq hF hS (sq rfl (q_ld_old1 ty52 rfl hb1 rfl rfl) <|
   sq rfl (q_move rfl) <|
   sq rfl (q_muli rfl rfl (by omega)) <|
   sq rfl (q_move rfl) <|
   sq rfl (q_addi rfl rfl (by omega)) <|
   sq rfl (q_muli rfl rfl (by omega)) <|
   sq rfl (q_slsl_lo_hi ty52 ty5 hx rfl rfl rfl (by omega)) <|
   sq rfl (q_s2ap_sl ty23 (Sl.cut hx (by omega)) rfl bQ (by decide)) <|
   sq rfl (q_ld_B16 ty23 (Sl.cut hx (by omega)) zin0 rfl rfl bQ (by decide)) <|
   sq_end) ?_
 clear hF hS; intro a w hF hS
 refine wpl_ef hF hS rfl (ef_storeW ty23 0 rfl rfl rfl rfl bQ oQ bQ) ?_
 clear hF hS; rintro _ _ _ a w ⟨rfl, rfl, rfl⟩ hF hS
 replace hS : St _ [] [_] _ := hS
 refine wpList_nil ?_
 refine hK2 _ _ ?_
 clear hK2
 refine wp_ret ?_
 exact fn_ret (rs := [.cell 3 23]) rfl hF hS (vs := [_]) ⟨⟨_, _, _, _, _, _, _, rfl, List.mem_of_getElem? (i := 0) rfl, ty23, .inl ⟨rfl, bQ, rfl⟩⟩, trivial⟩ zQ zQ (by rw [Si.vl_eq hk0])

set_option maxRecDepth 4000 in
set_option maxHeartbeats 2000000 in
theorem ver2_ct (c i : Int) (dv rv : Value) (dd : List Int) (rr : List UInt8) (e1 e2 e3 e4 : Nat) {bte1 bte2 bte3 bte4 : TypeId} {fze1 fze2 fze3 fze4 : Nat × Nat} (hc : 0 ≤ c ∧ c < 68) (hi9 : -9223372036854775808 ≤ i ∧ i ≤ 9223372036854775807) (hdl : dd.length = 68) (hdr : ∀ c : Nat, 0 ≤ dd.getD c 0 ∧ dd.getD c 0 ≤ 3) (hrl : 1088 ≤ rr.length) (hr9 : rr.length < 1048576) (w : World) (hb1 : w.heap[e1]? = some (.cells [vi i].toArray bte1 fze1)) (hb2 : w.heap[e2]? = some (.cells [dv].toArray bte2 fze2)) (hb3 : w.heap[e3]? = some (.cells [.func (.func 37) (List.nil : List Value).toArray [Value.pointer (some ⟨e4, 0, none⟩)].toArray].toArray bte3 fze3)) (hb4 : w.heap[e4]? = some (.cells [rv].toArray bte4 fze4)) (hd : Sl encI (ph w) dv dd) (hr : Sl encB (ph w) rv rr) {fz1 : Nat × Nat} {bt1 : TypeId} (hg1 : w.heap[1]? = some (.cells (Sha.kc.map vw).toArray bt1 fz1)) : Ct Tryd.prog 39 [vi c, .pointer (some ⟨e1, 0, none⟩), .pointer (some ⟨e2, 0, none⟩), .pointer (some ⟨e3, 0, none⟩)] w (fun r _ _ => r = .agg ((Si.vT i dd rr c).map vb).toArray) := by
 refine fn_enter Tryd.func39 rfl Tryd.ntmps39 (Nat.le_of_ble_eq_true rfl) fun a hF hS => ?_
 have hq := hdr c.toNat
 have h16 := Si.vl_16 (r := rr) (k := c) hc.1 (by omega)
 have h17 : (Si.advT i c (dd.getD c.toNat 0) 3 (Si.vl rr c)).length = 16 := Si.advT_16 h16
 refine wp_seq_k ?_; intro K1 hK1
 refine regl ?_
 refine wpl_ef hF hS rfl (ef_allocA ty23) ?_
 clear hF hS; rintro _ _ _ a w ⟨b1, rfl, rfl, rfl⟩ hF hS
 rw [show List.replicate 16 (Value.int .u8 0) = (List.replicate 16 (0 : UInt8)).map vb from by rw [List.map_replicate] <;> rfl] at hS
 refine wpList_nil ?_
 refine hK1 _ _ ?_
 clear hK1
 refine wp_seq_k ?_; intro K2 hK2
 refine regt 10 mixed kQ hF hS (sq rfl (q_ld_old1 ty3 rfl hb1 rfl rfl) <|
   sq rfl (q_move rfl) <|
   sq rfl (q_ld_old1 ty25 rfl hb2 rfl rfl) <|
   sq rfl (q_move rfl) <|
   sq rfl (q_idx_sl ty25 ty3 hd rfl rfl (by omega)) <|
   sq rfl (q_ld_I ty3 hd zin0 rfl rfl (by omega)) <|
   sq rfl (q_ld_old1 ty69 rfl hb3 rfl rfl) <|
   sq rfl (q_move rfl) <|
   sq rfl (q_callv fn37 rfl rfl (by exact fun w hS => ver1_ct c rv rr e4 (by omega) (by omega) (by omega) w (hS.ext _ _ hb4) (Sl.mono (hS.le zin0) hr)) (fun _ _ _ h => h)) <|
   sq rfl (q_call fn27 rfl (fun w hS => sadv_ct _ _ _ _ _ (by first | with_reducible assumption | omega) (by first | with_reducible assumption | omega) (by first | with_reducible assumption | omega) (by first | with_reducible assumption | omega) (by first | with_reducible assumption | omega) w (hS.ext _ _ hg1)) (fun _ _ _ h => h)) <|
   sq_end) ?_
 clear hF hS; intro a w hF hS
 refine wpl_ef hF hS rfl (ef_storeW ty23 0 rfl rfl rfl rfl bQ oQ bQ) ?_
 clear hF hS; rintro _ _ _ a w ⟨rfl, rfl, rfl⟩ hF hS
 replace hS : St _ [] [_] _ := hS
 refine wpList_nil ?_
 refine hK2 _ _ ?_
 clear hK2
 refine wp_ret ?_
 exact fn_ret (rs := [.cell 5 23]) rfl hF hS (vs := [_]) ⟨⟨_, _, _, _, _, _, _, rfl, List.mem_of_getElem? (i := 0) rfl, ty23, .inl ⟨rfl, bQ, rfl⟩⟩, trivial⟩ zQ zQ (by rw [Si.vT_eq hc.1 (by omega)])

set_option maxRecDepth 4000 in
set_option maxHeartbeats 2000000 in
theorem verify_ct (p : List UInt8) (h : Int) (m x : List UInt8) (hp6 : p.length = 16) (hm9 : m.length < 1048576) (hx9 : x.length < 1048576) (w : World) {fz1 : Nat × Nat} {bt1 : TypeId} (hg1 : w.heap[1]? = some (.cells (Sha.kc.map vw).toArray bt1 fz1)) : Ct Tryd.prog 18 [.agg ((p).map vb).toArray, vi h, vs m, vs x] w (fun r _ _ => r = .tuple [vi (Si.ver p h m x).1, vi (Si.ver p h m x).2].toArray) := by
 refine fn_enter Tryd.func18 rfl Tryd.ntmps18 (Nat.le_of_ble_eq_true rfl) fun a hF hS => ?_
 have hgb := Si.getInt_bd x
 have hdl := Si.digs_len (Si.dig p (Wi.getInt x).1 m)
 have hd16 := Si.dig_16 p (Wi.getInt x).1 m
 refine wp_seq_k ?_; intro K1 hK1
 refine regl ?_
 refine wpl_ef hF hS rfl (ef_boxA rfl) ?_
 clear hF hS; rintro _ _ _ a w ⟨b1, rfl, rfl, rfl⟩ hF hS
 refine wpl_sq hF hS (sq rfl (q_assign rfl) <|
   sq rfl (q_assign rfl) <|
   sq_end) ?_
 clear hF hS; intro a w hF hS
 refine wpList_nil ?_
 refine hK1 _ _ ?_
 clear hK1
 refine wp_seq_k ?_; intro K2 hK2
 refine wp_block ?_
 refine wp_seq_k ?_; intro K3 hK3
 refine reg hF hS (sq rfl (q_move rfl) <|
   sq rfl (q_call fn21 rfl (fun w hS => svalid_ct _ w ) (fun _ _ _ h => h)) <|
   sq rfl (q_not rfl) <|
   sq rfl (q_assign rfl) <|
   sq_end) ?_
 clear hF hS; intro a w hF hS
 refine hK3 _ _ ?_
 clear hK3
 refine wp_if hF rfl (fun hc1 => ?_) (fun hc1 => ?_)
 ·have hok1 : ¬ (0 ≤ h ∧ h ≤ 6) := by simp at hc1 ⊢; omega
  refine wp_seq_k ?_; intro K4 hK4
  refine reg hF hS (sq rfl (q_assign rfl) <|
    sq rfl (q_assign rfl) <|
    sq_end) ?_
  clear hF hS; intro a w hF hS
  refine hK4 _ _ ?_
  clear hK4
  refine wp_ret ?_
  exact fn_ret (rs := [.tmp 8, .tmp 9]) rfl hF hS (vs := [_, _]) ⟨rfl, rfl, trivial⟩ zQ zQ (by unfold Si.ver; rw [if_neg hok1])
 ·have hok1 : 0 ≤ h ∧ h ≤ 6 := by (try simp at hc1); omega
  have hpw : (1 : Int) * 2 ^ (min h.toNat 64) = ((2 ^ h.toNat : Nat) : Int) := Si.pw (by omega)
  have hp6x := Si.p2_le (h := h.toNat) (l := 0) (by omega)
  rw [Nat.sub_zero] at hp6x
  have hpz := Int.natCast_nonneg (2 ^ h.toNat)
  refine wp_seq_k ?_; intro K5 hK5
  refine reg hF hS (sq rfl (q_move rfl) <|
    sq rfl (q_len_s ty9 rfl) <|
    sq rfl (q_gti rfl rfl) <|
    sq rfl (q_assign rfl) <|
    sq_end) ?_
  clear hF hS; intro a w hF hS
  refine hK5 _ _ ?_
  clear hK5
  refine wp_ifd hF rfl (fun hc2 => ?_) (fun hc2 => ?_)
  ·omega
  ·refine wp_skip ?_
   refine hK2 _ _ ?_
   clear hK2
   refine wp_seq_k ?_; intro K6 hK6
   refine regl ?_
   refine wpl_sq hF hS (sq rfl (q_move rfl) <|
     sq_end) ?_
   clear hF hS; intro a w hF hS
   refine wpl_ef hF hS rfl (ef_s2b ty9 ty52 ty5 rfl (by omega)) ?_
   clear hF hS; rintro v2 _ _ a w ⟨z3, rfl, rfl, hz4⟩ hF hS
   refine wpl_sq hF hS (sq rfl (q_call fn36 rfl (fun w hS => wgi_ct _ _ w (Sl.mono (hS.le (.inr (by simp))) hz4)) (fun _ _ _ h => h)) <|
     sq rfl (q_move rfl) <|
     sq rfl (q_extract rfl rfl) <|
     sq rfl (q_extract rfl rfl) <|
     sq rfl (q_extract rfl rfl) <|
     sq_end) ?_
   clear hF hS; intro a w hF hS
   refine wpl_ef hF hS rfl (ef_alloc1 ty3 (by rfl)) ?_
   clear hF hS; rintro _ _ _ a w ⟨b5, rfl, rfl, rfl⟩ hF hS
   refine wpl_ef hF hS rfl (ef_store1 ty3 0 rfl rfl rfl rfl (by simp)) ?_
   clear hF hS; rintro _ _ _ a w ⟨rfl, rfl, rfl⟩ hF hS
   (try simp only [List.set_cons_zero, List.set_cons_succ] at hS)
   replace hS : St _ [_] [_, _] _ := hS
   refine wpl_sq hF hS (sq rfl (q_assign rfl) <|
     sq rfl (q_assign rfl) <|
     sq_end) ?_
   clear hF hS; intro a w hF hS
   refine wpList_nil ?_
   refine hK6 _ _ ?_
   clear hK6
   refine wp_seq_k ?_; intro K7 hK7
   refine wp_seq_k ?_; intro K8 hK8
   refine reg hF hS (sq rfl (q_move rfl) <|
     sq rfl (q_nei rfl rfl) <|
     sq_end) ?_
   clear hF hS; intro a w hF hS
   refine hK8 _ _ ?_
   clear hK8
   refine wp_ifn hF rfl (fun hc3 => ?_) (fun hc3 => ?_)
   ·have hge : ¬ (Wi.getInt x).2.2 = 0 := hc3
    refine wp_seq_k ?_; intro K9 hK9
    refine reg hF hS (sq rfl (q_move rfl) <|
      sq rfl (q_assign rfl) <|
      sq rfl (q_assign rfl) <|
      sq_end) ?_
    clear hF hS; intro a w hF hS
    refine hK9 _ _ ?_
    clear hK9
    refine wp_ret ?_
    exact fn_ret (rs := [.tmp 8, .tmp 9]) rfl hF hS (vs := [_, _]) ⟨rfl, rfl, trivial⟩ zQ zQ (by unfold Si.ver; rw [if_pos hok1, if_neg hge])
   ·have hge : (Wi.getInt x).2.2 = 0 := hc3
    have hrd : (List.drop (Wi.getInt x).2.1.toNat x).length = x.length - (Wi.getInt x).2.1.toNat := List.length_drop
    have hrl : (Si.rst x).length = x.length - (Wi.getInt x).2.1.toNat := List.length_drop
    refine wp_skip ?_
    refine hK7 _ _ ?_
    clear hK7
    refine wp_seq_k ?_; intro K10 hK10
    refine regl ?_
    refine wpl_sq hF hS (sq rfl (q_move rfl) <|
      sq rfl (q_move rfl) <|
      sq rfl (q_sl_s_lo ty9 rfl rfl (by omega)) <|
      sq_end) ?_
    clear hF hS; intro a w hF hS
    refine wpl_ef hF hS rfl (ef_s2b ty9 ty52 ty5 rfl (by omega)) ?_
    clear hF hS; rintro v6 _ _ a w ⟨z7, rfl, rfl, hz8⟩ hF hS
    refine wpl_ef hF hS rfl (ef_alloc1 ty52 (by rfl)) ?_
    clear hF hS; rintro _ _ _ a w ⟨b9, rfl, rfl, rfl⟩ hF hS
    refine wpl_ef hF hS rfl (ef_store1 ty52 0 rfl rfl rfl (sl_one' hz8) (by simp)) ?_
    clear hF hS; rintro _ _ _ a w ⟨rfl, rfl, rfl⟩ hF hS
    (try simp only [List.set_cons_zero, List.set_cons_succ] at hS)
    replace hS : St _ [_, _] [_, _, _] _ := hS
    refine wpList_nil ?_
    replace hz8 : Sl encB z7 _ (Si.rst x) := hz8
    refine hK10 _ _ ?_
    clear hK10
    refine wp_seq_k ?_; intro K11 hK11
    refine wp_seq_k ?_; intro K12 hK12
    refine regq mixed kQ hS ?_
    refine wpq_seg hF (sq rfl (q_ld_blk1 ty3 1 rfl rfl rfl rfl) <|
      sq rfl (q_lti rfl rfl) <|
      sq rfl (q_move rfl) <|
      sq_end) ?_
    clear hF; intro a hF
    refine wpq_or 2 42 4 hF rfl rfl rfl rfl rfl (fun hg => have hg := (by first | exact of_decide_eq_false hg | exact hg); sq_go 42 rfl rfl rfl (q_ld_blk1 ty3 1 rfl rfl rfl rfl) <|
      sq_go 42 rfl rfl rfl (q_move rfl) <|
      sq_go 42 rfl rfl rfl (q_shli rfl rfl (by omega) (by omega)) <|
      sq_go 42 rfl rfl rfl (q_gei rfl rfl) <|
      sq_end) rfl rfl ?_
    clear hF; intro a hF
    refine wpq_seg hF (sq rfl (q_move rfl) <|
      sq_end) ?_
    clear hF; intro a hF
    refine wpq_or 8 48 6 hF rfl rfl rfl rfl rfl (fun hg => have hg := hg; sq_go 48 rfl rfl rfl (q_ld_blk1 ty52 0 rfl rfl rfl rfl) <|
      sq_go 48 rfl rfl rfl (q_len_sl ty52 hz8 rfl) <|
      sq_go 48 rfl rfl rfl (q_move rfl) <|
      sq_go 48 rfl rfl rfl (q_addi rfl rfl (by omega)) <|
      sq_go 48 rfl rfl rfl (q_muli rfl rfl (by omega)) <|
      sq_go 48 rfl rfl rfl (q_nei rfl rfl) <|
      sq_end) rfl rfl ?_
    clear hF; intro a hF
    refine wpq_nil ?_
    clear hS; intro w hS
    refine hK12 _ _ ?_
    clear hK12
    refine wp_if hF rfl (fun hc4 => ?_) (fun hc4 => ?_)
    ·(try simp only [Bool.or_eq_true, Bool.and_eq_true, Bool.or_eq_false_iff, Bool.and_eq_false_iff, decide_eq_true_eq, decide_eq_false_iff_not, Bool.not_eq_true', Bool.not_eq_false'] at hc4)
     have hof : ¬ Si.okF h x := by unfold Si.okF Si.okI; omega
     refine wp_seq_k ?_; intro K13 hK13
     refine reg hF hS (sq rfl (q_assign rfl) <|
       sq rfl (q_assign rfl) <|
       sq_end) ?_
     clear hF hS; intro a w hF hS
     refine hK13 _ _ ?_
     clear hK13
     refine wp_ret ?_
     exact fn_ret (rs := [.tmp 8, .tmp 9]) rfl hF hS (vs := [_, _]) ⟨rfl, rfl, trivial⟩ zQ zQ (by unfold Si.ver; rw [if_pos hok1, if_pos hge, if_neg hof])
    ·(try simp only [Bool.or_eq_true, Bool.and_eq_true, Bool.or_eq_false_iff, Bool.and_eq_false_iff, decide_eq_true_eq, decide_eq_false_iff_not, Bool.not_eq_true', Bool.not_eq_false'] at hc4)
     have hl16 : (Si.leafD (Si.cat (Si.vT (Wi.getInt x).1 (Si.digs (Si.dig p (Wi.getInt x).1 m)) (Si.rst x)) 68)).length = 16 := Si.vv_16 (Wi.getInt x).1 (Si.digs (Si.dig p (Wi.getInt x).1 m)) (Si.rst x) 0
     have hof : Si.okF h x := by unfold Si.okF Si.okI; omega
     have hi0 : 0 ≤ (Wi.getInt x).1 := by omega
     have hi1 : (Wi.getInt x).1 < ((2 ^ h.toNat : Nat) : Int) := by omega
     have hr0 : 1088 ≤ (Si.rst x).length := by omega
     refine wp_skip ?_
     refine hK11 _ _ ?_
     clear hK11
     refine wp_seq_k ?_; intro K14 hK14
     refine regl ?_
     refine wpl_sq hF hS (sq rfl (q_mkf rfl rfl) <|
       sq_end) ?_
     clear hF hS; intro a w hF hS
     refine wpl_ef hF hS rfl (ef_alloc1 ty69 (by rfl)) ?_
     clear hF hS; rintro _ _ _ a w ⟨b10, rfl, rfl, rfl⟩ hF hS
     refine wpl_ef hF hS rfl (ef_store1 ty69 0 rfl rfl rfl rfl (by simp)) ?_
     clear hF hS; rintro _ _ _ a w ⟨rfl, rfl, rfl⟩ hF hS
     (try simp only [List.set_cons_zero, List.set_cons_succ] at hS)
     replace hS : St _ [_, _] [_, _, _, _] _ := hS
     refine wpList_nil ?_
     refine hK14 _ _ ?_
     clear hK14
     refine wp_seq_k ?_; intro K15 hK15
     refine regl ?_
     refine wpl_sq hF hS (sq rfl (q_ld_blkW ty23 3 rfl rfl bQ rfl) <|
       sq rfl (q_ld_blk1 ty3 2 rfl rfl rfl rfl) <|
       sq rfl (q_move rfl) <|
       sq rfl (q_call fn16 rfl (fun w hS => sdigest_ct _ _ _ (by first | with_reducible assumption | omega) (by omega) (by omega) w (hS.ext _ _ hg1)) (fun _ _ _ h => h)) <|
       sq_end) ?_
     clear hF hS; intro a w hF hS
     refine wpl_ef hF hS rfl (ef_call fn10 rfl (fun w hS => sdgs_ct _ (by first | with_reducible assumption | omega) w )) ?_
     clear hF hS; rintro v11 _ _ a w ⟨_, _, rfl, rfl, ⟨z12, hz13, rfl, rfl⟩⟩ hF hS
     replace hS : St _ [_, _, _] [_, _, _, _] _ := hS
     refine wpl_ef hF hS rfl (ef_alloc1 ty25 (by rfl)) ?_
     clear hF hS; rintro _ _ _ a w ⟨b14, rfl, rfl, rfl⟩ hF hS
     refine wpl_ef hF hS rfl (ef_store1 ty25 0 rfl rfl rfl (sl_one' hz13) (by simp)) ?_
     clear hF hS; rintro _ _ _ a w ⟨rfl, rfl, rfl⟩ hF hS
     (try simp only [List.set_cons_zero, List.set_cons_succ] at hS)
     replace hS : St _ [_, _, _] [_, _, _, _, _] _ := hS
     refine wpList_nil ?_
     refine hK15 _ _ ?_
     clear hK15
     refine wp_seq_k ?_; intro K16 hK16
     refine regl ?_
     refine wpl_sq hF hS (sq rfl (q_mkf rfl rfl) <|
       sq rfl (q_call fn38 rfl (fun w hS => leaf_ct _ (Si.vT (Wi.getInt x).1 (Si.digs (Si.dig p (Wi.getInt x).1 m)) (Si.rst x)) (Si.vT_16 _ _ _) w ⟨39, [], [_, _, _], rfl, fn39, fun w' hle y hy => ver2_ct y _ _ _ _ (Si.rst x) _ _ _ _ hy (by omega) hdl (Si.digs_get _) (by omega) (by omega) w' (hle _ _ (own_box hS 3 rfl)) (hle _ _ (own_box hS 0 rfl)) (hle _ _ (own_box hS 1 rfl)) (hle _ _ (own_box hS 2 rfl)) (Sl.mono (PH.le_tr (hS.le (.inr (by simp))) hle) hz13) (Sl.mono (PH.le_tr (hS.le (.inr (by simp))) hle) hz8) (hle _ _ (hS.ext _ _ hg1))⟩ (hS.ext _ _ hg1)) (fun _ _ _ h => h)) <|
       sq_end) ?_
     clear hF hS; intro a w hF hS
     refine wpl_ef hF hS rfl (ef_allocA ty23) ?_
     clear hF hS; rintro _ _ _ a w ⟨b15, rfl, rfl, rfl⟩ hF hS
     rw [show List.replicate 16 (Value.int .u8 0) = (List.replicate 16 (0 : UInt8)).map vb from by rw [List.map_replicate] <;> rfl] at hS
     refine wpl_ef hF hS rfl (ef_storeW ty23 0 rfl rfl rfl rfl bQ oQ bQ) ?_
     clear hF hS; rintro _ _ _ a w ⟨rfl, rfl, rfl⟩ hF hS
     replace hS : St _ [_, _, _] [_, _, _, _, _, _] _ := hS
     refine wpList_nil ?_
     refine hK16 _ _ ?_
     clear hK16
     refine wp_seq_k ?_; intro K17 hK17
     refine wp_seq_k ?_; intro K18 hK18
     refine reg hF hS (sq rfl (q_move rfl) <|
       sq rfl (q_move rfl) <|
       sq_end) ?_
     clear hF hS; intro a w hF hS
     refine hK18 _ _ ?_
     clear hK18
     refine wp_block ?_
     obtain ⟨hs0, hhs0, hS⟩ : ∃ h, h = _ ∧ St _ _ h _ := ⟨_, rfl, hS⟩
     refine wp_loopx (γ := Int) (0) (fun (l : Int) => [(65, vi l)]) [(4, _), (10, _), (14, _), (16, _), (64, _)] (fun (l : Int) => (hs0.set 0 (.blk b15 23 ((Si.vv (Wi.getInt x).1 (Si.digs (Si.dig p (Wi.getInt x).1 m)) (Si.rst x) l.toNat).map vb)))) (fun (l : Int) => 0 ≤ l ∧ l ≤ h) (fun (l : Int) => (h - l).toNat) (hF.sub ⟨rfl, rfl, rfl, rfl, rfl, rfl, trivial⟩) (by subst hhs0; exact hS) (by exact ⟨Int.le_refl _, by omega⟩) ?_
     clear hF hS; rintro l a w hfact hF hS
     subst hhs0; (try dsimp only at hfact); (try dsimp only at hF); (try dsimp only at hS)
     obtain ⟨hl0, hl1⟩ := hfact
     replace hS : St _ [_, _, _] [_, _, _, _, _, _] _ := hS
     have hv16 := Si.vv_16 (Wi.getInt x).1 (Si.digs (Si.dig p (Wi.getInt x).1 m)) (Si.rst x) l.toNat
     refine wp_seq_k ?_; intro K19 hK19
     refine reg hF hS (sq rfl (q_lti rfl rfl) <|
       sq_end) ?_
     clear hF hS; intro a w hF hS
     refine hK19 _ _ ?_
     clear hK19
     refine wp_seq_k ?_; intro K20 hK20
     refine wp_ifd hF rfl (fun hc5 => ?_) (fun hc5 => ?_)
     ·have hdv := Si.div_lt (i := (Wi.getInt x).1) (h := h.toNat) (l := l.toNat) (by omega) hi0 hi1
      have hp8 : ((2 ^ (h.toNat - l.toNat) : Nat) : Int) ≤ 64 := by exact_mod_cast Si.p2_le (h := h.toNat) (l := l.toNat) (by omega)
      have hia : iand ((Wi.getInt x).1 / 2 ^ (min l.toNat 64)) 1 = (Wi.getInt x).1 / 2 ^ l.toNat % 2 := by
       rw [Nat.min_eq_left (by omega)]; exact Si.iand_par hdv.1 (by omega)
      have hq16 := Si.vl_16 (r := Si.rst x) (k := 68 + l) (by omega) (by omega)
      have hn1 := Si.node_16 (Si.vl (Si.rst x) (68 + l)) (Si.vv (Wi.getInt x).1 (Si.digs (Si.dig p (Wi.getInt x).1 m)) (Si.rst x) l.toNat)
      have hn2 := Si.node_16 (Si.vv (Wi.getInt x).1 (Si.digs (Si.dig p (Wi.getInt x).1 m)) (Si.rst x) l.toNat) (Si.vl (Si.rst x) (68 + l))
      refine wp_skip ?_
      refine hK20 _ _ ?_
      clear hK20
      refine wp_seq_k ?_; intro K21 hK21
      refine wp_block ?_
      refine wp_seq_k ?_; intro K22 hK22
      refine reg hF hS (sq rfl (q_move rfl) <|
        sq rfl (q_assign rfl) <|
        sq_end) ?_
      clear hF hS; intro a w hF hS
      refine hK22 _ _ ?_
      clear hK22
      refine wp_seq_k ?_; intro K23 hK23
      refine reg hF hS (sq rfl (q_ld_blk1 ty3 4 rfl rfl rfl rfl) <|
        sq rfl (q_move rfl) <|
        sq rfl (q_shri rfl rfl (by omega)) <|
        sq rfl (q_andi rfl rfl) <|
        sq rfl (q_eqi rfl rfl) <|
        sq_end) ?_
      clear hF hS; intro a w hF hS
      refine hK23 _ _ ?_
      clear hK23
      refine wp_ifd hF rfl (fun hc6 => ?_) (fun hc6 => ?_)
      ·have hpar := hc6
       rw [hia] at hpar
       refine regt 6 mixed kQ hF hS (sq rfl (q_ld_blk1 ty69 2 rfl rfl rfl rfl) <|
         sq rfl (q_move rfl) <|
         sq rfl (q_addi rfl rfl (by omega)) <|
         sq rfl (q_callv fn37 rfl rfl (by exact fun w hS => ver1_ct _ _ _ _ (by omega) (by omega) (by omega) w (own_box hS 3 rfl) (Sl.mono (hS.le (.inr (by simp))) hz8)) (fun _ _ _ h => h)) <|
         sq rfl (q_ld_blkW ty23 0 rfl rfl bQ rfl) <|
         sq rfl (q_call fn40 rfl (fun w hS => snode_ct _ _ (by first | with_reducible assumption | omega) (by first | with_reducible assumption | omega) w (hS.ext _ _ hg1)) (fun _ _ _ h => h)) <|
         sq_end) ?_
       clear hF hS; intro a w hF hS
       refine wpl_ef hF hS rfl (ef_storeW ty23 0 rfl rfl rfl rfl bQ oQ bQ) ?_
       clear hF hS; rintro _ _ _ a w ⟨rfl, rfl, rfl⟩ hF hS
       replace hS : St _ [_, _, _] [_, _, _, _, _, _] _ := hS
       refine wpList_nil ?_
       refine hK21 _ _ ?_
       clear hK21
       refine reg hF hS (sq rfl (q_addi rfl rfl (by omega)) <|
         sq rfl (q_move rfl) <|
         sq_end) ?_
       clear hF hS; intro a w hF hS
       refine ⟨(l + 1), ?_, ?_, hF.sub ⟨rfl, rfl, rfl, rfl, rfl, rfl, trivial⟩, ?_⟩
       ·(try dsimp only); omega
       ·(try dsimp only); omega
       ·rw [← Si.vv_t hl0 hpar] at hS; exact hS
      ·have hpar := hc6
       rw [hia] at hpar
       refine regt 6 mixed kQ hF hS (sq rfl (q_ld_blkW ty23 0 rfl rfl bQ rfl) <|
         sq rfl (q_ld_blk1 ty69 2 rfl rfl rfl rfl) <|
         sq rfl (q_move rfl) <|
         sq rfl (q_addi rfl rfl (by omega)) <|
         sq rfl (q_callv fn37 rfl rfl (by exact fun w hS => ver1_ct _ _ _ _ (by omega) (by omega) (by omega) w (own_box hS 3 rfl) (Sl.mono (hS.le (.inr (by simp))) hz8)) (fun _ _ _ h => h)) <|
         sq rfl (q_call fn40 rfl (fun w hS => snode_ct _ _ (by first | with_reducible assumption | omega) (by first | with_reducible assumption | omega) w (hS.ext _ _ hg1)) (fun _ _ _ h => h)) <|
         sq_end) ?_
       clear hF hS; intro a w hF hS
       refine wpl_ef hF hS rfl (ef_storeW ty23 0 rfl rfl rfl rfl bQ oQ bQ) ?_
       clear hF hS; rintro _ _ _ a w ⟨rfl, rfl, rfl⟩ hF hS
       replace hS : St _ [_, _, _] [_, _, _, _, _, _] _ := hS
       refine wpList_nil ?_
       refine hK21 _ _ ?_
       clear hK21
       refine reg hF hS (sq rfl (q_addi rfl rfl (by omega)) <|
         sq rfl (q_move rfl) <|
         sq_end) ?_
       clear hF hS; intro a w hF hS
       refine ⟨(l + 1), ?_, ?_, hF.sub ⟨rfl, rfl, rfl, rfl, rfl, rfl, trivial⟩, ?_⟩
       ·(try dsimp only); omega
       ·(try dsimp only); omega
       ·rw [← Si.vv_f hl0 hpar] at hS; exact hS
     ·have hlh : l = h := by omega
      rw [hlh] at hS hv16
      refine wp_exit ?_
      refine hK17 _ _ ?_
      clear hK17
      refine wp_seq_k ?_; intro K24 hK24
      refine wp_seq_k ?_; intro K25 hK25
      refine reg hF hS (sq rfl (q_ld_blkW ty23 0 rfl rfl bQ rfl) <|
        sq rfl (q_ld_blkW ty23 5 rfl rfl bQ rfl) <|
        sq rfl (q_neAB ty23 ty5 kQ rfl rfl bQ bQ) <|
        sq_end) ?_
      clear hF hS; intro a w hF hS
      refine hK25 _ _ ?_
      clear hK25
      refine wp_ifn hF rfl (fun hc7 => ?_) (fun hc7 => ?_)
      ·have hrt : ¬ Si.root p h m x = p := hc7
       refine wp_seq_k ?_; intro K26 hK26
       refine reg hF hS (sq rfl (q_assign rfl) <|
         sq rfl (q_assign rfl) <|
         sq_end) ?_
       clear hF hS; intro a w hF hS
       refine hK26 _ _ ?_
       clear hK26
       refine wp_ret ?_
       exact fn_ret (rs := [.tmp 8, .tmp 9]) rfl hF hS (vs := [_, _]) ⟨rfl, rfl, trivial⟩ zQ zQ (by unfold Si.ver; rw [if_pos hok1, if_pos hge, if_pos hof, if_neg hrt])
      ·have hrt : Si.root p h m x = p := hc7
       refine wp_skip ?_
       refine hK24 _ _ ?_
       clear hK24
       refine wp_seq_k ?_; intro K27 hK27
       refine reg hF hS (sq rfl (q_ld_blk1 ty3 4 rfl rfl rfl rfl) <|
         sq rfl (q_assign rfl) <|
         sq rfl (q_assign rfl) <|
         sq_end) ?_
       clear hF hS; intro a w hF hS
       refine hK27 _ _ ?_
       clear hK27
       refine wp_ret ?_
       exact fn_ret (rs := [.tmp 8, .tmp 9]) rfl hF hS (vs := [_, _]) ⟨rfl, rfl, trivial⟩ zQ zQ (by unfold Si.ver; rw [if_pos hok1, if_pos hge, if_pos hof, if_pos hrt])

set_option maxRecDepth 4000 in
set_option maxHeartbeats 2000000 in
theorem rverify_ct (p : List UInt8) (h : Int) (m x : List UInt8) (hp6 : p.length = 16) (hm9 : m.length < 1048576) (hx9 : x.length < 1048576) (w : World) {fz0 : Nat × Nat} {bt0 : TypeId} (hg0 : w.heap[0]? = some (.cells (Sha.kc.map vw).toArray bt0 fz0)) : Ct Tryd.prog 19 [.agg ((p).map vb).toArray, vi h, vs m, vs x] w (fun r _ _ => r = .tuple [vi (Si.ver p h m x).1, vi (Si.ver p h m x).2].toArray) := by
 refine fn_enter Tryd.func19 rfl Tryd.ntmps19 (Nat.le_of_ble_eq_true rfl) fun a hF hS => ?_
 have hgb := Si.getInt_bd x
 have hdl := Si.digs_len (Si.dig p (Wi.getInt x).1 m)
 have hd16 := Si.dig_16 p (Wi.getInt x).1 m
 refine wp_seq_k ?_; intro K1 hK1
 refine regl ?_
 refine wpl_ef hF hS rfl (ef_boxA rfl) ?_
 clear hF hS; rintro _ _ _ a w ⟨b1, rfl, rfl, rfl⟩ hF hS
 refine wpl_sq hF hS (sq rfl (q_assign rfl) <|
   sq rfl (q_assign rfl) <|
   sq_end) ?_
 clear hF hS; intro a w hF hS
 refine wpList_nil ?_
 refine hK1 _ _ ?_
 clear hK1
 refine wp_seq_k ?_; intro K2 hK2
 refine wp_seq_k ?_; intro K3 hK3
 refine regl ?_
 refine wpl_sq hF hS (sq rfl (q_move rfl) <|
   sq rfl (q_lti rfl rfl) <|
   sq rfl (q_move rfl) <|
   sq_end) ?_
 clear hF hS; intro a w hF hS
 refine wpl_or 2 24 2 hF hS rfl rfl rfl rfl rfl (fun hg => have hg := (by first | exact of_decide_eq_false hg | exact hg); sq_go 24 rfl rfl rfl (q_move rfl) <|
   sq_go 24 rfl rfl rfl (q_gti rfl rfl) <|
   sq_end) rfl rfl ?_
 clear hF hS; intro a w hF hS
 refine wpList_nil ?_
 refine hK3 _ _ ?_
 clear hK3
 refine wp_if hF rfl (fun hc1 => ?_) (fun hc1 => ?_)
 ·(try simp only [Bool.or_eq_true, Bool.and_eq_true, Bool.or_eq_false_iff, Bool.and_eq_false_iff, decide_eq_true_eq, decide_eq_false_iff_not, Bool.not_eq_true', Bool.not_eq_false'] at hc1)
  have hok1 : ¬ (0 ≤ h ∧ h ≤ 6) := by omega
  refine wp_seq_k ?_; intro K4 hK4
  refine reg hF hS (sq rfl (q_assign rfl) <|
    sq rfl (q_assign rfl) <|
    sq_end) ?_
  clear hF hS; intro a w hF hS
  refine hK4 _ _ ?_
  clear hK4
  refine wp_ret ?_
  exact fn_ret (rs := [.tmp 8, .tmp 9]) rfl hF hS (vs := [_, _]) ⟨rfl, rfl, trivial⟩ zQ zQ (by unfold Si.ver; rw [if_neg hok1])
 ·(try simp only [Bool.or_eq_true, Bool.and_eq_true, Bool.or_eq_false_iff, Bool.and_eq_false_iff, decide_eq_true_eq, decide_eq_false_iff_not, Bool.not_eq_true', Bool.not_eq_false'] at hc1)
  have hok1 : 0 ≤ h ∧ h ≤ 6 := by (try simp at hc1); omega
  have hpw : (1 : Int) * 2 ^ (min h.toNat 64) = ((2 ^ h.toNat : Nat) : Int) := Si.pw (by omega)
  have hp6x := Si.p2_le (h := h.toNat) (l := 0) (by omega)
  rw [Nat.sub_zero] at hp6x
  have hpz := Int.natCast_nonneg (2 ^ h.toNat)
  refine wp_skip ?_
  refine hK2 _ _ ?_
  clear hK2
  refine wp_seq_k ?_; intro K5 hK5
  refine wp_seq_k ?_; intro K6 hK6
  refine reg hF hS (sq rfl (q_move rfl) <|
    sq rfl (q_len_s ty9 rfl) <|
    sq rfl (q_gti rfl rfl) <|
    sq_end) ?_
  clear hF hS; intro a w hF hS
  refine hK6 _ _ ?_
  clear hK6
  refine wp_ifd hF rfl (fun hc2 => ?_) (fun hc2 => ?_)
  ·omega
  ·refine wp_skip ?_
   refine hK5 _ _ ?_
   clear hK5
   refine wp_seq_k ?_; intro K7 hK7
   refine regl ?_
   refine wpl_sq hF hS (sq rfl (q_move rfl) <|
     sq_end) ?_
   clear hF hS; intro a w hF hS
   refine wpl_ef hF hS rfl (ef_s2b ty9 ty52 ty5 rfl (by omega)) ?_
   clear hF hS; rintro v2 _ _ a w ⟨z3, rfl, rfl, hz4⟩ hF hS
   refine wpl_sq hF hS (sq rfl (q_call fn41 rfl (fun w hS => rgi_ct _ _ w (Sl.mono (hS.le (.inr (by simp))) hz4)) (fun _ _ _ h => h)) <|
     sq rfl (q_move rfl) <|
     sq rfl (q_extract rfl rfl) <|
     sq rfl (q_extract rfl rfl) <|
     sq rfl (q_extract rfl rfl) <|
     sq rfl (q_assign rfl) <|
     sq rfl (q_assign rfl) <|
     sq rfl (q_assign rfl) <|
     sq_end) ?_
   clear hF hS; intro a w hF hS
   refine wpList_nil ?_
   refine hK7 _ _ ?_
   clear hK7
   refine wp_seq_k ?_; intro K8 hK8
   refine wp_seq_k ?_; intro K9 hK9
   refine reg hF hS (sq rfl (q_move rfl) <|
     sq rfl (q_nei rfl rfl) <|
     sq_end) ?_
   clear hF hS; intro a w hF hS
   refine hK9 _ _ ?_
   clear hK9
   refine wp_ifn hF rfl (fun hc3 => ?_) (fun hc3 => ?_)
   ·have hge : ¬ (Wi.getInt x).2.2 = 0 := hc3
    refine wp_seq_k ?_; intro K10 hK10
    refine reg hF hS (sq rfl (q_move rfl) <|
      sq rfl (q_assign rfl) <|
      sq rfl (q_assign rfl) <|
      sq_end) ?_
    clear hF hS; intro a w hF hS
    refine hK10 _ _ ?_
    clear hK10
    refine wp_ret ?_
    exact fn_ret (rs := [.tmp 8, .tmp 9]) rfl hF hS (vs := [_, _]) ⟨rfl, rfl, trivial⟩ zQ zQ (by unfold Si.ver; rw [if_pos hok1, if_neg hge])
   ·have hge : (Wi.getInt x).2.2 = 0 := hc3
    have hrd : (List.drop (Wi.getInt x).2.1.toNat x).length = x.length - (Wi.getInt x).2.1.toNat := List.length_drop
    have hrl : (Si.rst x).length = x.length - (Wi.getInt x).2.1.toNat := List.length_drop
    refine wp_skip ?_
    refine hK8 _ _ ?_
    clear hK8
    refine wp_seq_k ?_; intro K11 hK11
    refine reg hF hS (sq rfl (q_move rfl) <|
      sq rfl (q_move rfl) <|
      sq rfl (q_sl_s_lo ty9 rfl rfl (by omega)) <|
      sq rfl (q_assign rfl) <|
      sq_end) ?_
    clear hF hS; intro a w hF hS
    rw [show List.drop (Wi.getInt x).2.1.toNat x = Si.rst x from rfl] at hF
    refine hK11 _ _ ?_
    clear hK11
    refine wp_seq_k ?_; intro K12 hK12
    refine wp_seq_k ?_; intro K13 hK13
    refine regl ?_
    refine wpl_sq hF hS (sq rfl (q_move rfl) <|
      sq rfl (q_lti rfl rfl) <|
      sq rfl (q_move rfl) <|
      sq_end) ?_
    clear hF hS; intro a w hF hS
    refine wpl_or 2 46 4 hF hS rfl rfl rfl rfl rfl (fun hg => have hg := (by first | exact of_decide_eq_false hg | exact hg); sq_go 46 rfl rfl rfl (q_move rfl) <|
      sq_go 46 rfl rfl rfl (q_move rfl) <|
      sq_go 46 rfl rfl rfl (q_shli rfl rfl (by omega) (by omega)) <|
      sq_go 46 rfl rfl rfl (q_gei rfl rfl) <|
      sq_end) rfl rfl ?_
    clear hF hS; intro a w hF hS
    refine wpl_sq hF hS (sq rfl (q_move rfl) <|
      sq_end) ?_
    clear hF hS; intro a w hF hS
    refine wpl_or 8 52 6 hF hS rfl rfl rfl rfl rfl (fun hg => have hg := hg; sq_go 52 rfl rfl rfl (q_move rfl) <|
      sq_go 52 rfl rfl rfl (q_len_s ty9 rfl) <|
      sq_go 52 rfl rfl rfl (q_move rfl) <|
      sq_go 52 rfl rfl rfl (q_addi rfl rfl (by omega)) <|
      sq_go 52 rfl rfl rfl (q_muli rfl rfl (by omega)) <|
      sq_go 52 rfl rfl rfl (q_nei rfl rfl) <|
      sq_end) rfl rfl ?_
    clear hF hS; intro a w hF hS
    refine wpList_nil ?_
    refine hK13 _ _ ?_
    clear hK13
    refine wp_if hF rfl (fun hc4 => ?_) (fun hc4 => ?_)
    ·(try simp only [Bool.or_eq_true, Bool.and_eq_true, Bool.or_eq_false_iff, Bool.and_eq_false_iff, decide_eq_true_eq, decide_eq_false_iff_not, Bool.not_eq_true', Bool.not_eq_false'] at hc4)
     have hof : ¬ Si.okF h x := by unfold Si.okF Si.okI; omega
     refine wp_seq_k ?_; intro K14 hK14
     refine reg hF hS (sq rfl (q_assign rfl) <|
       sq rfl (q_assign rfl) <|
       sq_end) ?_
     clear hF hS; intro a w hF hS
     refine hK14 _ _ ?_
     clear hK14
     refine wp_ret ?_
     exact fn_ret (rs := [.tmp 8, .tmp 9]) rfl hF hS (vs := [_, _]) ⟨rfl, rfl, trivial⟩ zQ zQ (by unfold Si.ver; rw [if_pos hok1, if_pos hge, if_neg hof])
    ·(try simp only [Bool.or_eq_true, Bool.and_eq_true, Bool.or_eq_false_iff, Bool.and_eq_false_iff, decide_eq_true_eq, decide_eq_false_iff_not, Bool.not_eq_true', Bool.not_eq_false'] at hc4)
     have hl16 : (Si.leafD (Si.cat (Si.vT (Wi.getInt x).1 (Si.digs (Si.dig p (Wi.getInt x).1 m)) (Si.rst x)) 68)).length = 16 := Si.vv_16 (Wi.getInt x).1 (Si.digs (Si.dig p (Wi.getInt x).1 m)) (Si.rst x) 0
     have hof : Si.okF h x := by unfold Si.okF Si.okI; omega
     have hi0 : 0 ≤ (Wi.getInt x).1 := by omega
     have hi1 : (Wi.getInt x).1 < ((2 ^ h.toNat : Nat) : Int) := by omega
     have hr0 : 1088 ≤ (Si.rst x).length := by omega
     refine wp_skip ?_
     refine hK12 _ _ ?_
     clear hK12
     refine wp_seq_k ?_; intro K15 hK15
     refine regl ?_
     refine wpl_sq hF hS (sq rfl (q_ld_blkW ty23 0 rfl rfl bQ rfl) <|
       sq rfl (q_move rfl) <|
       sq rfl (q_move rfl) <|
       sq rfl (q_call fn17 rfl (fun w hS => srdigest_ct _ _ _ (by first | with_reducible assumption | omega) (by omega) (by omega) w (hS.ext _ _ hg0)) (fun _ _ _ h => h)) <|
       sq_end) ?_
     clear hF hS; intro a w hF hS
     refine wpl_ef hF hS rfl (ef_call fn11 rfl (fun w hS => srdgs_ct _ (by first | with_reducible assumption | omega) w )) ?_
     clear hF hS; rintro v5 _ _ a w ⟨_, _, rfl, rfl, ⟨z6, hz7, rfl, rfl⟩⟩ hF hS
     replace hS : St _ [_, _] [_] _ := hS
     refine wpl_sq hF hS (sq rfl (q_assign rfl) <|
       sq_end) ?_
     clear hF hS; intro a w hF hS
     refine wpList_nil ?_
     refine hK15 _ _ ?_
     clear hK15
     refine wp_seq_k ?_; intro K16 hK16
     refine reg hF hS (sq rfl (q_assign rfl) <|
       sq_end) ?_
     clear hF hS; intro a w hF hS
     refine hK16 _ _ ?_
     clear hK16
     refine wp_seq_k ?_; intro K17 hK17
     refine wp_seq_k ?_; intro K18 hK18
     refine reg hF hS (sq rfl (q_assign rfl) <|
       sq_end) ?_
     clear hF hS; intro a w hF hS
     refine hK18 _ _ ?_
     clear hK18
     refine wp_block ?_
     obtain ⟨hs0, hhs0, hS⟩ : ∃ h, h = _ ∧ St _ _ h _ := ⟨_, rfl, hS⟩
     refine wp_loopx (γ := Int) (0) (fun (c : Int) => [(15, vs (Si.cat (Si.vT (Wi.getInt x).1 (Si.digs (Si.dig p (Wi.getInt x).1 m)) (Si.rst x)) c.toNat)), (16, vi c)]) [(1, _), (4, _), (10, _), (13, _), (14, _)] (fun (c : Int) => hs0) (fun (c : Int) => 0 ≤ c ∧ c ≤ 68) (fun (c : Int) => (68 - c).toNat) (hF.sub ⟨rfl, rfl, rfl, rfl, rfl, rfl, rfl, trivial⟩) (by subst hhs0; exact hS) (by exact ⟨Int.le_refl _, by omega⟩) ?_
     clear hF hS; rintro c a w hfact hF hS
     subst hhs0; (try dsimp only at hfact); (try dsimp only at hF); (try dsimp only at hS)
     obtain ⟨hc0, hc68⟩ := hfact
     replace hS : St _ [_, _] [_] _ := hS
     have hcl := Si.cat_len (Si.vT_16 (Wi.getInt x).1 (Si.digs (Si.dig p (Wi.getInt x).1 m)) (Si.rst x)) c.toNat
     have hdc := Si.digs_get (Si.dig p (Wi.getInt x).1 m) c.toNat
     have had := Si.vT_16 (Wi.getInt x).1 (Si.digs (Si.dig p (Wi.getInt x).1 m)) (Si.rst x) c
     refine wp_seq_k ?_; intro K19 hK19
     refine wp_seq_k ?_; intro K20 hK20
     refine reg hF hS (sq rfl (q_move rfl) <|
       sq rfl (q_lti rfl rfl) <|
       sq_end) ?_
     clear hF hS; intro a w hF hS
     refine hK20 _ _ ?_
     clear hK20
     refine wp_ifd hF rfl (fun hc5 => ?_) (fun hc5 => ?_)
     ·have hv16 := Si.vl_16 (r := Si.rst x) (k := c) hc0 (by omega)
      have hvt := Si.vT_eq (i := (Wi.getInt x).1) (d := (Si.digs (Si.dig p (Wi.getInt x).1 m))) (r := Si.rst x) (c := c) hc0 (by omega)
      have hdr9 : (List.drop (16 * c).toNat (Si.rst x)).length = (Si.rst x).length - (16 * c).toNat := List.length_drop
      have hv17 : (List.take 16 (List.drop (16 * c).toNat (Si.rst x))).length = 16 := hv16
      have hdc := Si.digs_get (Si.dig p (Wi.getInt x).1 m) c.toNat
      have had2 : (Si.advT (Wi.getInt x).1 c ((Si.digs (Si.dig p (Wi.getInt x).1 m)).getD c.toNat 0) 3 (List.take 16 (List.drop (16 * c).toNat (Si.rst x)))).length = 16 := Si.advT_16 hv17
      refine wp_skip ?_
      refine hK19 _ _ ?_
      clear hK19
      refine wp_seq_k ?_; intro K21 hK21
      refine wp_block ?_
      refine regd mixed kQ hF hS (sq rfl (q_move rfl) <|
        sq rfl (q_move rfl) <|
        sq rfl (q_move rfl) <|
        sq rfl (q_move rfl) <|
        sq rfl (q_move rfl) <|
        sq rfl (q_idx_sl ty25 ty3 hz7 rfl rfl (by omega)) <|
        sq rfl (q_ld_I ty3 hz7 (.inr (by simp)) rfl rfl (by omega)) <|
        sq rfl (q_move rfl) <|
        sq rfl (q_move rfl) <|
        sq rfl (q_muli rfl rfl (by omega)) <|
        sq rfl (q_sl_s_lo ty9 rfl rfl (by omega)) <|
        sq rfl (q_call fn42 rfl (fun w hS => sdig_ct _ (by omega) w ) (fun _ _ _ h => h)) <|
        sq rfl (q_call fn32 rfl (fun w hS => sradv_ct _ _ _ _ _ (by first | with_reducible assumption | omega) (by first | with_reducible assumption | omega) (by first | with_reducible assumption | omega) (by first | with_reducible assumption | omega) (by first | with_reducible assumption | omega) w (hS.ext _ _ hg0)) (fun _ _ _ h => h)) <|
        sq rfl (q_call fn31 rfl (fun w hS => rtext_ct _ (by first | with_reducible assumption | omega | (simp; omega)) w ) (fun _ _ _ h => h)) <|
        sq rfl (q_adds rfl rfl bQ) <|
        sq rfl (q_assign rfl) <|
        sq_end) ?_
      clear hF hS; intro a w hF hS
      refine hK21 _ _ ?_
      clear hK21
      refine reg hF hS (sq rfl (q_move rfl) <|
        sq rfl (q_addi rfl rfl (by omega)) <|
        sq rfl (q_assign rfl) <|
        sq_end) ?_
      clear hF hS; intro a w hF hS
      refine ⟨(c + 1), ?_, ?_, hF.sub ⟨(by show some (vs _) = some (vs _); rw [Si.cat_next hc0, ← hvt]; rfl), rfl, rfl, rfl, rfl, rfl, rfl, trivial⟩, ?_⟩
      ·(try dsimp only); omega
      ·(try dsimp only); omega
      ·exact hS
     ·obtain rfl : c = 68 := by omega
      obtain ⟨S, hSS⟩ : ∃ S, Si.cat (Si.vT (Wi.getInt x).1 (Si.digs (Si.dig p (Wi.getInt x).1 m)) (Si.rst x)) (68 : Int).toNat = S := ⟨_, rfl⟩
      have hc68 : S.length = 1088 := hSS ▸ Si.cat68 (Si.vT_16 (Wi.getInt x).1 (Si.digs (Si.dig p (Wi.getInt x).1 m)) (Si.rst x))
      rw [hSS] at hF
      have ho2 := Sha.ofD_len 2 [S]
      have ho3 := Sha.ofD_len 3 [Sha.ofD 2 [S]]
      refine wp_exit ?_
      refine hK17 _ _ ?_
      clear hK17
      refine wp_seq_k ?_; intro K22 hK22
      refine regl ?_
      refine wpl_sq hF hS (sq rfl (q_move rfl) <|
        sq_end) ?_
      clear hF hS; intro a w hF hS
      refine wpl_ef hF hS rfl (ef_bsliceA ty66 ty9 rfl rfl oQ (by decide) rfl rfl) ?_
      clear hF hS; rintro v8 _ _ a w ⟨rfl, rfl⟩ hF hS
      replace hS : St _ [_, _] [_, _] _ := hS
      refine wpl_sq hF hS (sq rfl (q_call fn35 rfl (fun w hS => rof_ct _ _ _ (by simp; omega) (by simp) w (own_slV (f := vs) (xs := [S]) (hS.own _ (List.mem_of_getElem? (i := 0) rfl)).1 (by simp; omega) rfl (by decide)) (hS.ext _ _ hg0)) (fun _ _ _ h => h)) <|
        sq_end) ?_
      clear hF hS; intro a w hF hS
      refine wpl_ef hF hS rfl (ef_allocA ty23) ?_
      clear hF hS; rintro _ _ _ a w ⟨b10, rfl, rfl, rfl⟩ hF hS
      rw [show List.replicate 16 (Value.int .u8 0) = (List.replicate 16 (0 : UInt8)).map vb from by rw [List.map_replicate] <;> rfl] at hS
      refine wpl_ef hF hS rfl (ef_storeW ty23 0 rfl rfl rfl rfl bQ oQ bQ) ?_
      clear hF hS; rintro _ _ _ a w ⟨rfl, rfl, rfl⟩ hF hS
      replace hS : St _ [_, _] [_, _, _] _ := hS
      refine wpList_nil ?_
      refine hK22 _ _ ?_
      clear hK22
      refine wp_seq_k ?_; intro K23 hK23
      refine regl ?_
      refine wpl_sq hF hS (sq rfl (q_ld_blkW ty23 0 rfl rfl bQ rfl) <|
        sq rfl (q_call fn31 rfl (fun w hS => rtext_ct _ (by first | with_reducible assumption | omega | (simp; omega)) w ) (fun _ _ _ h => h)) <|
        sq_end) ?_
      clear hF hS; intro a w hF hS
      refine wpl_ef hF hS rfl (ef_bsliceA ty66 ty9 rfl rfl oQ (by decide) rfl rfl) ?_
      clear hF hS; rintro v11 _ _ a w ⟨rfl, rfl⟩ hF hS
      replace hS : St _ [_, _] [_, _, _, _] _ := hS
      refine wpl_sq hF hS (sq rfl (q_call fn35 rfl (fun w hS => rof_ct _ _ _ (by simp; omega) (by simp) w (own_slV (f := vs) (xs := [Sha.ofD 2 [S]]) (hS.own _ (List.mem_of_getElem? (i := 0) rfl)).1 (by simp; omega) rfl (by decide)) (hS.ext _ _ hg0)) (fun _ _ _ h => h)) <|
        sq_end) ?_
      clear hF hS; intro a w hF hS
      refine wpl_ef hF hS rfl (ef_allocA ty23) ?_
      clear hF hS; rintro _ _ _ a w ⟨b13, rfl, rfl, rfl⟩ hF hS
      rw [show List.replicate 16 (Value.int .u8 0) = (List.replicate 16 (0 : UInt8)).map vb from by rw [List.map_replicate] <;> rfl] at hS
      refine wpl_ef hF hS rfl (ef_storeW ty23 0 rfl rfl rfl rfl bQ oQ bQ) ?_
      clear hF hS; rintro _ _ _ a w ⟨rfl, rfl, rfl⟩ hF hS
      replace hS : St _ [_, _] [_, _, _, _, _] _ := hS
      refine wpList_nil ?_
      refine hK23 _ _ ?_
      clear hK23
      refine wp_seq_k ?_; intro K24 hK24
      refine reg hF hS (sq rfl (q_move rfl) <|
        sq rfl (q_assign rfl) <|
        sq_end) ?_
      clear hF hS; intro a w hF hS
      refine hK24 _ _ ?_
      clear hK24
      refine wp_seq_k ?_; intro K25 hK25
      refine wp_seq_k ?_; intro K26 hK26
      refine reg hF hS (sq rfl (q_assign rfl) <|
        sq_end) ?_
      clear hF hS; intro a w hF hS
      refine hK26 _ _ ?_
      clear hK26
      refine wp_block ?_
      obtain ⟨hs0, hhs0, hS⟩ : ∃ h, h = _ ∧ St _ _ h _ := ⟨_, rfl, hS⟩
      refine wp_loopx (γ := Int) (0) (fun (l : Int) => [(19, vi ((Wi.getInt x).1 / 2 ^ l.toNat)), (20, vi l)]) [(1, _), (4, _), (10, _), (13, _), (18, _)] (fun (l : Int) => (hs0.set 0 (.blk b13 23 ((Si.vv (Wi.getInt x).1 (Si.digs (Si.dig p (Wi.getInt x).1 m)) (Si.rst x) l.toNat).map vb)))) (fun (l : Int) => 0 ≤ l ∧ l ≤ h) (fun (l : Int) => (h - l).toNat) (hF.sub ⟨(by show some (vi _) = some (vi _); rw [show (0 : Int).toNat = 0 from rfl, Int.pow_zero, Int.ediv_one]), rfl, rfl, rfl, rfl, rfl, rfl, trivial⟩) (by subst hhs0; (try dsimp only); rw [Si.vv_0, hSS]; exact hS) (by exact ⟨Int.le_refl _, by omega⟩) ?_
      clear hF hS; rintro l a w hfact hF hS
      subst hhs0; (try dsimp only at hfact); (try dsimp only at hF); (try dsimp only at hS)
      obtain ⟨hl0, hl1⟩ := hfact
      replace hS : St _ [_, _] [_, _, _, _, _] _ := hS
      have hv16 := Si.vv_16 (Wi.getInt x).1 (Si.digs (Si.dig p (Wi.getInt x).1 m)) (Si.rst x) l.toNat
      refine wp_seq_k ?_; intro K27 hK27
      refine wp_seq_k ?_; intro K28 hK28
      refine reg hF hS (sq rfl (q_move rfl) <|
        sq rfl (q_move rfl) <|
        sq rfl (q_lti rfl rfl) <|
        sq_end) ?_
      clear hF hS; intro a w hF hS
      refine hK28 _ _ ?_
      clear hK28
      refine wp_ifd hF rfl (fun hc6 => ?_) (fun hc6 => ?_)
      ·have hdv := Si.div_lt (i := (Wi.getInt x).1) (h := h.toNat) (l := l.toNat) (by omega) hi0 hi1
       have hp8 : ((2 ^ (h.toNat - l.toNat) : Nat) : Int) ≤ 64 := by exact_mod_cast Si.p2_le (h := h.toNat) (l := l.toNat) (by omega)
       have hdr9 : (List.drop (16 * (68 + l)).toNat (Si.rst x)).length = (Si.rst x).length - (16 * (68 + l)).toNat := List.length_drop
       have hq16 : (List.take 16 (List.drop (16 * (68 + l)).toNat (Si.rst x))).length = 16 := Si.vl_16 (r := Si.rst x) (k := 68 + l) (by omega) (by omega)
       have hn1 := Si.node_16 (List.take 16 (List.drop (16 * (68 + l)).toNat (Si.rst x))) (Si.vv (Wi.getInt x).1 (Si.digs (Si.dig p (Wi.getInt x).1 m)) (Si.rst x) l.toNat)
       have hn2 := Si.node_16 (Si.vv (Wi.getInt x).1 (Si.digs (Si.dig p (Wi.getInt x).1 m)) (Si.rst x) l.toNat) (List.take 16 (List.drop (16 * (68 + l)).toNat (Si.rst x)))
       refine wp_skip ?_
       refine hK27 _ _ ?_
       clear hK27
       refine wp_seq_k ?_; intro K29 hK29
       refine wp_block ?_
       refine wp_seq_k ?_; intro K30 hK30
       refine regl ?_
       refine wpl_sq hF hS (sq rfl (q_move rfl) <|
         sq rfl (q_move rfl) <|
         sq rfl (q_addi rfl rfl (by omega)) <|
         sq rfl (q_muli rfl rfl (by omega)) <|
         sq rfl (q_sl_s_lo ty9 rfl rfl (by omega)) <|
         sq rfl (q_call fn42 rfl (fun w hS => sdig_ct _ (by omega) w ) (fun _ _ _ h => h)) <|
         sq_end) ?_
       clear hF hS; intro a w hF hS
       refine wpl_ef hF hS rfl (ef_allocA ty23) ?_
       clear hF hS; rintro _ _ _ a w ⟨b14, rfl, rfl, rfl⟩ hF hS
       rw [show List.replicate 16 (Value.int .u8 0) = (List.replicate 16 (0 : UInt8)).map vb from by rw [List.map_replicate] <;> rfl] at hS
       refine wpl_ef hF hS rfl (ef_storeW ty23 0 rfl rfl rfl rfl bQ oQ bQ) ?_
       clear hF hS; rintro _ _ _ a w ⟨rfl, rfl, rfl⟩ hF hS
       replace hS : St _ [_, _] [_, _, _, _, _, _] _ := hS
       refine wpList_nil ?_
       refine hK30 _ _ ?_
       clear hK30
       refine wp_seq_k ?_; intro K31 hK31
       refine wp_seq_k ?_; intro K32 hK32
       refine reg hF hS (sq rfl (q_move rfl) <|
         sq rfl (q_remi rfl rfl (by omega)) <|
         sq rfl (q_eqi rfl rfl) <|
         sq_end) ?_
       clear hF hS; intro a w hF hS
       refine hK32 _ _ ?_
       clear hK32
       refine wp_ifd hF rfl (fun hc7 => ?_) (fun hc7 => ?_)
       ·have hpar := hc7
        refine regl ?_
        refine wpl_sq hF hS (sq rfl (q_ld_blkW ty23 0 rfl rfl bQ rfl) <|
          sq rfl (q_ld_blkW ty23 1 rfl rfl bQ rfl) <|
          sq rfl (q_call fn43 rfl (fun w hS => srnode_ct _ _ (by first | with_reducible assumption | omega) (by first | with_reducible assumption | omega) w (hS.ext _ _ hg0)) (fun _ _ _ h => h)) <|
          sq_end) ?_
        clear hF hS; intro a w hF hS
        refine wpl_ef hF hS rfl (ef_storeW ty23 1 rfl rfl rfl rfl bQ oQ bQ) ?_
        clear hF hS; rintro _ _ _ a w ⟨rfl, rfl, rfl⟩ hF hS
        replace hS : St _ [_, _] [_, _, _, _, _, _] _ := hS
        refine wpList_nil ?_
        refine hK31 _ _ ?_
        clear hK31
        refine reg hF hS (sq rfl (q_move rfl) <|
          sq rfl (q_quoi rfl rfl (by omega)) <|
          sq rfl (q_assign rfl) <|
          sq_end) ?_
        clear hF hS; intro a w hF hS
        refine hK29 _ _ ?_
        clear hK29
        refine reg hF hS (sq rfl (q_move rfl) <|
          sq rfl (q_addi rfl rfl (by omega)) <|
          sq rfl (q_assign rfl) <|
          sq_end) ?_
        clear hF hS; intro a w hF hS
        replace hS := hS.keep sQ (sQ.n)
        refine ⟨(l + 1), ?_, ?_, hF.sub ⟨(by rw [Si.div_next hi0 hl0]; rfl), rfl, rfl, rfl, rfl, rfl, rfl, trivial⟩, ?_⟩
        ·(try dsimp only); omega
        ·(try dsimp only); omega
        ·(try dsimp only); rw [Si.vv_t hl0 hpar]; exact hS
       ·have hpar := hc7
        refine regl ?_
        refine wpl_sq hF hS (sq rfl (q_ld_blkW ty23 1 rfl rfl bQ rfl) <|
          sq rfl (q_ld_blkW ty23 0 rfl rfl bQ rfl) <|
          sq rfl (q_call fn43 rfl (fun w hS => srnode_ct _ _ (by first | with_reducible assumption | omega) (by first | with_reducible assumption | omega) w (hS.ext _ _ hg0)) (fun _ _ _ h => h)) <|
          sq_end) ?_
        clear hF hS; intro a w hF hS
        refine wpl_ef hF hS rfl (ef_storeW ty23 1 rfl rfl rfl rfl bQ oQ bQ) ?_
        clear hF hS; rintro _ _ _ a w ⟨rfl, rfl, rfl⟩ hF hS
        replace hS : St _ [_, _] [_, _, _, _, _, _] _ := hS
        refine wpList_nil ?_
        refine hK31 _ _ ?_
        clear hK31
        refine reg hF hS (sq rfl (q_move rfl) <|
          sq rfl (q_quoi rfl rfl (by omega)) <|
          sq rfl (q_assign rfl) <|
          sq_end) ?_
        clear hF hS; intro a w hF hS
        refine hK29 _ _ ?_
        clear hK29
        refine reg hF hS (sq rfl (q_move rfl) <|
          sq rfl (q_addi rfl rfl (by omega)) <|
          sq rfl (q_assign rfl) <|
          sq_end) ?_
        clear hF hS; intro a w hF hS
        replace hS := hS.keep sQ (sQ.n)
        refine ⟨(l + 1), ?_, ?_, hF.sub ⟨(by rw [Si.div_next hi0 hl0]; rfl), rfl, rfl, rfl, rfl, rfl, rfl, trivial⟩, ?_⟩
        ·(try dsimp only); omega
        ·(try dsimp only); omega
        ·(try dsimp only); rw [Si.vv_f hl0 hpar]; exact hS
      ·have hlh : l = h := by omega
       rw [hlh] at hS hv16
       refine wp_exit ?_
       refine hK25 _ _ ?_
       clear hK25
       refine wp_seq_k ?_; intro K33 hK33
       refine wp_seq_k ?_; intro K34 hK34
       refine reg hF hS (sq rfl (q_ld_blkW ty23 0 rfl rfl bQ rfl) <|
         sq rfl (q_ld_blkW ty23 4 rfl rfl bQ rfl) <|
         sq rfl (q_neAB ty23 ty5 kQ rfl rfl bQ bQ) <|
         sq_end) ?_
       clear hF hS; intro a w hF hS
       refine hK34 _ _ ?_
       clear hK34
       refine wp_ifn hF rfl (fun hc8 => ?_) (fun hc8 => ?_)
       ·have hrt : ¬ Si.root p h m x = p := hc8
        refine wp_seq_k ?_; intro K35 hK35
        refine reg hF hS (sq rfl (q_assign rfl) <|
          sq rfl (q_assign rfl) <|
          sq_end) ?_
        clear hF hS; intro a w hF hS
        refine hK35 _ _ ?_
        clear hK35
        refine wp_ret ?_
        exact fn_ret (rs := [.tmp 8, .tmp 9]) rfl hF hS (vs := [_, _]) ⟨rfl, rfl, trivial⟩ zQ zQ (by unfold Si.ver; rw [if_pos hok1, if_pos hge, if_pos hof, if_neg hrt])
       ·have hrt : Si.root p h m x = p := hc8
        refine wp_skip ?_
        refine hK33 _ _ ?_
        clear hK33
        refine wp_seq_k ?_; intro K36 hK36
        refine reg hF hS (sq rfl (q_move rfl) <|
          sq rfl (q_assign rfl) <|
          sq rfl (q_assign rfl) <|
          sq_end) ?_
        clear hF hS; intro a w hF hS
        refine hK36 _ _ ?_
        clear hK36
        refine wp_ret ?_
        exact fn_ret (rs := [.tmp 8, .tmp 9]) rfl hF hS (vs := [_, _]) ⟨rfl, rfl, trivial⟩ zQ zQ (by unfold Si.ver; rw [if_pos hok1, if_pos hge, if_pos hof, if_pos hrt])
end Go.Proofs.YtlopocmpcmkdkaaDoor
