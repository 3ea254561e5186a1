/- A text of a proof over this seat: walks over the program's functions and the plain laws that they need. -/
import Derived.Test.YtdojfnigffeblaaDoorMm7
import Derived.Test.YtdojfnigffeblaaDoorMkA
import Derived.Test.YtdojfnigffeblaaDoorFwD
import Derived.Test.YtdojfnigffeblaaDoorFwB
set_option linter.all false
namespace Go.Proofs.YtdojfnigffeblaaDoor
open Go.Fw
theorem fn36 : FnOk Tryd.prog 36 := ⟨_, Tryd.func36, rfl, by kernel_rfl⟩
theorem fn61 : FnOk Tryd.prog 61 := ⟨_, Tryd.func61, rfl, by kernel_rfl⟩
theorem fn62 : FnOk Tryd.prog 62 := ⟨_, Tryd.func62, rfl, by kernel_rfl⟩

attribute [local irreducible] Sha.sum Sha.mac Sha.ofD Wi.int Wi.ints Wi.bytes Sha.inp Mk.half Lib.compareBytes Mk.frm Mk.rootD

set_option maxRecDepth 4000 in
set_option maxHeartbeats 2000000 in
theorem runder_ct (q : Mk.Pf) (lv sv : Value) (rd : List UInt8) (hr : rd.length = 16) (w : World) (hb : Sl encF (ph w) lv q.lv) (hsd : Sl (encA 16) (ph w) sv q.sd) {fz0 : Nat × Nat} {bt0 : TypeId} (hg0 : w.heap[0]? = some (.cells (Sha.kc.map vw).toArray bt0 fz0)) : Ct Tryd.prog 62 [.agg ((rd).map vb).toArray, .agg [vi q.fst, vi q.sz, lv, sv].toArray] w (fun r _ _ => r = .bool (Mk.undB q rd)) := by
 refine fn_enter Tryd.func62 rfl Tryd.ntmps62 (Nat.le_of_ble_eq_true rfl) fun a hF hS => ?_
 obtain ⟨qf, qs, ql, qd⟩ := q
 dsimp only at hF hb hsd
 have hbl := hb.1
 have hdl : qd.length ≤ 140737488355328 := hsd.1
 have hs16 : ∀ d ∈ qd, d.length = 16 := sl_A hsd
 refine wp_seq_k ?_; intro K1 hK1
 refine regl ?_
 refine wpl_ef hF hS rfl (ef_boxA rfl) ?_
 clear hF hS; rintro _ _ _ a w ⟨b1, rfl, rfl, rfl⟩ hF hS
 refine wpl_ef hF hS rfl (ef_boxA rfl) ?_
 clear hF hS; rintro _ _ _ a w ⟨b2, rfl, rfl, rfl⟩ hF hS
 refine wpl_sq hF hS (sq rfl (q_assign rfl) <|
   sq_end) ?_
 clear hF hS; intro a w hF hS
 refine wpList_nil ?_
 refine hK1 _ _ ?_
 clear hK1
 refine wp_seq_k ?_; intro K2 hK2
 refine wp_seq_k ?_; intro K3 hK3
 refine regl ?_
 refine wpl_sq hF hS (sq rfl (q_fieldAddr ty54 rfl rfl (s' := 0) kQ) <|
   sq rfl (q_ld_blk1 ty3 0 rfl rfl rfl rfl) <|
   sq rfl (q_lti rfl rfl) <|
   sq rfl (q_move rfl) <|
   sq_end) ?_
 clear hF hS; intro a w hF hS
 refine wpl_or 3 10 3 hF hS rfl rfl rfl rfl rfl (fun hg => have hg := (by first | exact of_decide_eq_false hg | exact hg); sq_go 10 rfl rfl rfl (q_fieldAddr ty54 rfl rfl (s' := 0) kQ) <|
   sq_go 10 rfl rfl rfl (q_ld_blk1 ty3 0 rfl rfl rfl rfl) <|
   sq_go 10 rfl rfl rfl (q_gti rfl rfl) <|
   sq_end) rfl rfl ?_
 clear hF hS; intro a w hF hS
 refine wpl_sq hF hS (sq rfl (q_move rfl) <|
   sq_end) ?_
 clear hF hS; intro a w hF hS
 refine wpl_or 8 15 3 hF hS rfl rfl rfl rfl rfl (fun hg => have hg := hg; sq_go 15 rfl rfl rfl (q_fieldAddr ty54 rfl rfl (s' := 0) kQ) <|
   sq_go 15 rfl rfl rfl (q_ld_blk1 ty3 0 rfl rfl rfl rfl) <|
   sq_go 15 rfl rfl rfl (q_lti rfl rfl) <|
   sq_end) rfl rfl ?_
 clear hF hS; intro a w hF hS
 refine wpl_sq hF hS (sq rfl (q_move rfl) <|
   sq_end) ?_
 clear hF hS; intro a w hF hS
 refine wpl_or 13 20 5 hF hS rfl rfl rfl rfl rfl (fun hg => have hg := hg; sq_go 20 rfl rfl rfl (q_fieldAddr ty54 rfl rfl (s' := 0) kQ) <|
   sq_go 20 rfl rfl rfl (q_ld_blk1 ty3 0 rfl rfl rfl rfl) <|
   sq_go 20 rfl rfl rfl (q_fieldAddr ty54 rfl rfl (s' := 0) kQ) <|
   sq_go 20 rfl rfl rfl (q_ld_blk1 ty3 0 rfl rfl rfl rfl) <|
   sq_go 20 rfl rfl rfl (q_gti rfl rfl) <|
   sq_end) rfl rfl ?_
 clear hF hS; intro a w hF hS
 refine wpl_sq hF hS (sq rfl (q_move rfl) <|
   sq_end) ?_
 clear hF hS; intro a w hF hS
 refine wpl_or 20 27 9 hF hS rfl rfl rfl rfl rfl (fun hg => have hg := hg; sq_go 27 rfl rfl rfl (q_fieldAddr ty54 rfl rfl (s' := 0) kQ) <|
   sq_go 27 rfl rfl rfl (q_ld_blk1 ty24 0 rfl rfl rfl rfl) <|
   sq_go 27 rfl rfl rfl (q_len_sl ty24 hb rfl) <|
   sq_go 27 rfl rfl rfl (q_fieldAddr ty54 rfl rfl (s' := 0) kQ) <|
   sq_go 27 rfl rfl rfl (q_ld_blk1 ty3 0 rfl rfl rfl rfl) <|
   sq_go 27 rfl rfl rfl (q_fieldAddr ty54 rfl rfl (s' := 0) kQ) <|
   sq_go 27 rfl rfl rfl (q_ld_blk1 ty3 0 rfl rfl rfl rfl) <|
   sq_go 27 rfl rfl rfl (q_subiW rfl rfl) <|
   sq_go 27 rfl rfl rfl (q_gti rfl rfl) <|
   sq_end) rfl rfl ?_
 clear hF hS; intro a w hF hS
 refine wpl_sq hF hS (sq rfl (q_move rfl) <|
   sq_end) ?_
 clear hF hS; intro a w hF hS
 refine wpl_or 31 38 4 hF hS rfl rfl rfl rfl rfl (fun hg => have hg := hg; sq_go 38 rfl rfl rfl (q_fieldAddr ty54 rfl rfl (s' := 0) kQ) <|
   sq_go 38 rfl rfl rfl (q_ld_blk1 ty24 0 rfl rfl rfl rfl) <|
   sq_go 38 rfl rfl rfl (q_call fn16 rfl (fun w hS => rvalid_ct _ _ w (Sl.mono (hS.le zin0) hb)) (fun _ _ _ h => h)) <|
   sq_go 38 rfl rfl rfl (q_nei rfl rfl) <|
   sq_end) rfl rfl ?_
 clear hF hS; intro a w hF hS
 refine wpList_nil ?_
 refine hK3 _ _ ?_
 clear hK3
 refine wp_if hF rfl (fun hc1 => ?_) (fun hc1 => ?_)
 ·(try simp only [Bool.or_eq_true, Bool.and_eq_true, Bool.or_eq_false_iff, Bool.and_eq_false_iff, decide_eq_true_eq, decide_eq_false_iff_not, Bool.not_eq_true', Bool.not_eq_false'] at hc1)
  have hok : ¬ Mk.okP ⟨qf, qs, ql, qd⟩ := fun h9 => by
   obtain ⟨g1, g2, g3, g4, g5, g6⟩ := h9
   dsimp only at g1 g2 g3 g4 g5 g6
   have hw := wr_in (n := qs - qf) (by omega)
   rw [hw] at hc1
   omega
  refine wp_seq_k ?_; intro K4 hK4
  refine reg hF hS (sq rfl (q_assign rfl) <|
    sq_end) ?_
  clear hF hS; intro a w hF hS
  refine hK4 _ _ ?_
  clear hK4
  refine wp_ret ?_
  exact fn_ret (rs := [.tmp 4]) rfl hF hS (vs := [_]) ⟨rfl, trivial⟩ zQ zQ (by rw [Mk.und_no hok])
 ·(try simp only [Bool.or_eq_true, Bool.and_eq_true, Bool.or_eq_false_iff, Bool.and_eq_false_iff, decide_eq_true_eq, decide_eq_false_iff_not, Bool.not_eq_true', Bool.not_eq_false'] at hc1)
  have hw := wr_in (n := qs - qf) (by omega)
  rw [hw] at hc1
  obtain ⟨fn, rfl⟩ : ∃ fn : Nat, qf = fn := ⟨qf.toNat, by omega⟩
  obtain ⟨zn, rfl⟩ : ∃ zn : Nat, qs = zn := ⟨qs.toNat, by omega⟩
  have hok : Mk.okP ⟨fn, zn, ql, qd⟩ := ⟨by dsimp only; omega, by dsimp only; omega, by dsimp only; omega, by dsimp only; omega, by dsimp only; omega, by dsimp only; omega⟩
  have hva := Mk.vE_asc hok.2.2.2.2.2
  have hx9 : ∀ x ∈ ql, x.1.length < 1048576 ∧ x.2.length < 1048576 := fun x hx => by have := hva.2.2 x hx; omega
  have hl9 : ql.length < 1048576 := by have := hva.2.1; dsimp only at this; omega
  refine wp_skip ?_
  refine hK2 _ _ ?_
  clear hK2
  refine wp_seq_k ?_; intro K5 hK5
  refine wp_seq_k ?_; intro K6 hK6
  refine regl ?_
  refine wpl_sq hF hS (sq rfl (q_fieldAddr ty54 rfl rfl (s' := 0) kQ) <|
    sq rfl (q_ld_blk1 ty3 0 rfl rfl rfl rfl) <|
    sq rfl (q_gti rfl rfl) <|
    sq rfl (q_move rfl) <|
    sq_end) ?_
  clear hF hS; intro a w hF hS
  refine wpl_and 3 47 4 hF hS rfl rfl rfl rfl rfl (fun hg => have hg := (by first | exact of_decide_eq_true hg | exact hg); sq_go 47 rfl rfl rfl (q_fieldAddr ty54 rfl rfl (s' := 0) kQ) <|
    sq_go 47 rfl rfl rfl (q_ld_blk1 ty24 0 rfl rfl rfl rfl) <|
    sq_go 47 rfl rfl rfl (q_len_sl ty24 hb rfl) <|
    sq_go 47 rfl rfl rfl (q_eqi rfl rfl) <|
    sq_end) rfl rfl ?_
  clear hF hS; intro a w hF hS
  refine wpList_nil ?_
  refine hK6 _ _ ?_
  clear hK6
  refine wp_if hF rfl (fun hc2 => ?_) (fun hc2 => ?_)
  ·(try simp only [Bool.or_eq_true, Bool.and_eq_true, Bool.or_eq_false_iff, Bool.and_eq_false_iff, decide_eq_true_eq, decide_eq_false_iff_not, Bool.not_eq_true', Bool.not_eq_false'] at hc2)
   have hnl : ql = [] := List.length_eq_zero_iff.1 (by omega)
   refine wp_seq_k ?_; intro K7 hK7
   refine reg hF hS (sq rfl (q_assign rfl) <|
     sq_end) ?_
   clear hF hS; intro a w hF hS
   refine hK7 _ _ ?_
   clear hK7
   refine wp_ret ?_
   exact fn_ret (rs := [.tmp 4]) rfl hF hS (vs := [_]) ⟨rfl, trivial⟩ zQ zQ (by rw [Mk.und_nil (by dsimp only; omega) hnl])
  ·(try simp only [Bool.or_eq_true, Bool.and_eq_true, Bool.or_eq_false_iff, Bool.and_eq_false_iff, decide_eq_true_eq, decide_eq_false_iff_not, Bool.not_eq_true', Bool.not_eq_false'] at hc2)
   have hnl : zn = 0 ∨ ¬ ql = [] := by
    by_cases h9 : zn = 0
    ·exact .inl h9
    ·refine .inr fun h8 => ?_
     rw [h8] at hc2; simp at hc2; omega
   have hr16 : (Mk.rrR fn ql qd zn).1.length = 16 := by
    unfold Mk.rrR; split <;> exact Mk.rootD_16 _ _
   obtain ⟨σ, hσ⟩ : ∃ σ, σ = Mk.rrR fn ql qd zn := ⟨_, rfl⟩
   rw [← hσ] at hr16
   refine wp_skip ?_
   refine hK5 _ _ ?_
   clear hK5
   refine wp_seq_k ?_; intro K8 hK8
   refine regl ?_
   refine wpl_sq hF hS (sq rfl (q_fieldAddr ty54 rfl rfl (s' := 0) kQ) <|
     sq rfl (q_ld_blk1 ty48 0 rfl rfl rfl rfl) <|
     sq rfl (q_build1 ty102 4 kQ rfl (sl_one' hsd) rfl (by decide)) <|
     sq_end) ?_
   clear hF hS; intro a w hF hS
   refine wpl_ef hF hS rfl (ef_boxA rfl) ?_
   clear hF hS; rintro _ _ _ a w ⟨b3, rfl, rfl, rfl⟩ hF hS
   refine wpl_sq hF hS (sq rfl (q_assign rfl) <|
     sq_end) ?_
   clear hF hS; intro a w hF hS
   refine wpList_nil ?_
   replace hS := hS.nilRow 9 1
   refine hK8 _ _ ?_
   clear hK8
   refine wp_seq_k ?_; intro K9 hK9
   refine regl ?_
   refine wpl_sq hF hS (sq rfl (q_move rfl) <|
     sq rfl (q_fieldAddr ty54 rfl rfl (s' := 0) kQ) <|
     sq rfl (q_ld_blk1 ty24 2 rfl rfl rfl rfl) <|
     sq rfl (q_fieldAddr ty54 rfl rfl (s' := 0) kQ) <|
     sq rfl (q_ld_blk1 ty3 2 rfl rfl rfl rfl) <|
     sq rfl (q_fieldAddr ty54 rfl rfl (s' := 0) kQ) <|
     sq rfl (q_ld_blk1 ty3 2 rfl rfl rfl rfl) <|
     sq_end) ?_
   clear hF hS; intro a w hF hS
   replace hS := hS.perm (.swap _ _ _)
   replace hS : St _ [] [_, _, _, _] _ := hS
   refine wpl_ef hF hS rfl (ef_callxN 2 fn52 rfl (by exact (troot_ct _ _ (.slice none 0 0) _ ql fn qd _ zn hl9 hx9 hs16 (by omega) rfl (by omega) _ _ _ _ hb hsd hg0 ))) ?_
   clear hF hS; rintro _ _ _ a w ⟨_, _, rfl, rfl, ⟨tv1, rfl, rfl, rfl⟩⟩ hF hS
   rw [← hσ] at hF hS
   replace hS : St _ [] [_, _, _, _] _ := hS
   refine wpl_ef hF hS rfl (ef_allocA ty29) ?_
   clear hF hS; rintro _ _ _ a w ⟨b6, rfl, rfl, rfl⟩ hF hS
   rw [show List.replicate 16 (Value.int .u8 0) = (List.replicate 16 (0 : UInt8)).map vb from by rw [List.map_replicate] <;> rfl] at hS
   refine wpl_ef hF hS rfl (ef_storeW ty29 0 rfl rfl rfl rfl bQ oQ bQ) ?_
   clear hF hS; rintro _ _ _ a w ⟨rfl, rfl, rfl⟩ hF hS
   replace hS : St _ [] [_, _, _, _, _] _ := hS
   refine wpList_nil ?_
   refine hK9 _ _ ?_
   clear hK9
   refine wp_seq_k ?_; intro K10 hK10
   refine regq mixed kQ hS ?_
   refine wpq_seg hF (sq rfl (q_move rfl) <|
     sq rfl (q_nilCheck rfl) <|
     sq rfl (q_fieldAddr ty102 rfl rfl (s' := 0) kQ) <|
     sq rfl (q_ld_blk1 ty4 1 rfl rfl rfl rfl) <|
     sq rfl (q_not rfl) <|
     sq rfl (q_move rfl) <|
     sq_end) ?_
   clear hF; intro a hF
   refine wpq_and 5 70 8 hF rfl rfl rfl rfl rfl (fun hg => have hg := hg; sq_go 70 rfl rfl rfl (q_move rfl) <|
     sq_go 70 rfl rfl rfl (q_nilCheck rfl) <|
     sq_go 70 rfl rfl rfl (q_fieldAddr ty102 rfl rfl (s' := 0) kQ) <|
     sq_go 70 rfl rfl rfl (q_ld_blk1 ty3 1 rfl rfl rfl rfl) <|
     sq_go 70 rfl rfl rfl (q_fieldAddr ty54 rfl rfl (s' := 0) kQ) <|
     sq_go 70 rfl rfl rfl (q_ld_blk1 ty48 3 rfl rfl rfl rfl) <|
     sq_go 70 rfl rfl rfl (q_len_sl ty48 hsd rfl) <|
     sq_go 70 rfl rfl rfl (q_eqi rfl rfl) <|
     sq_end) rfl rfl ?_
   clear hF; intro a hF
   refine wpq_seg hF (sq rfl (q_move rfl) <|
     sq_end) ?_
   clear hF; intro a hF
   refine wpq_and 15 80 3 hF rfl rfl rfl rfl rfl (fun hg => have hg := hg; sq_go 80 rfl rfl rfl (q_ld_blkW ty29 0 rfl rfl bQ rfl) <|
     sq_go 80 rfl rfl rfl (q_ld_blkW ty29 4 rfl rfl bQ rfl) <|
     sq_go 80 rfl rfl rfl (q_eqAB ty29 ty5 kQ rfl rfl bQ bQ) <|
     sq_end) rfl rfl ?_
   clear hF; intro a hF
   refine wpq_seg hF (sq rfl (q_assign rfl) <|
     sq_end) ?_
   clear hF; intro a hF
   refine wpq_nil ?_
   clear hS; intro w hS
   refine hK10 _ _ ?_
   clear hK10
   refine wp_ret ?_
   exact fn_ret (rs := [.tmp 4]) rfl hF hS (vs := [_]) ⟨rfl, trivial⟩ zQ zQ (by rw [Mk.und_ref hok hnl hσ])

set_option maxRecDepth 4000 in
set_option maxHeartbeats 2000000 in
theorem check_ct (q : Mk.Pf) (lv sv : Value) (rd k : List UInt8) (hr : rd.length = 16) (w : World) (hb : Sl encF (ph w) lv q.lv) (hsd : Sl (encA 16) (ph w) sv q.sd) {fz1 : Nat × Nat} {bt1 : TypeId} (hg1 : w.heap[2]? = some (.cells (Sha.kc.map vw).toArray bt1 fz1)) : Ct Tryd.prog 29 [.agg ((rd).map vb).toArray, vs k, .agg [vi q.fst, vi q.sz, lv, sv].toArray] w (fun r _ _ => r = .tuple [vs (Mk.chkE rd k q).1, .bool (Mk.chkE rd k q).2.1, vi (Mk.chkE rd k q).2.2].toArray) := by
 refine fn_enter Tryd.func29 rfl Tryd.ntmps29 (Nat.le_of_ble_eq_true rfl) fun a hF hS => ?_
 obtain ⟨qf, qs, ql, qd⟩ := q
 dsimp only at hF hb hsd
 have hbl := hb.1
 have hdl : qd.length ≤ 140737488355328 := hsd.1
 have hs16 : ∀ d ∈ qd, d.length = 16 := sl_A hsd
 refine wp_seq_k ?_; intro K1 hK1
 refine regl ?_
 refine wpl_ef hF hS rfl (ef_boxA rfl) ?_
 clear hF hS; rintro _ _ _ a w ⟨b1, rfl, rfl, rfl⟩ hF hS
 refine wpl_ef hF hS rfl (ef_boxA rfl) ?_
 clear hF hS; rintro _ _ _ a w ⟨b2, rfl, rfl, rfl⟩ hF hS
 refine wpl_sq hF hS (sq rfl (q_assign rfl) <|
   sq rfl (q_assign rfl) <|
   sq rfl (q_assign rfl) <|
   sq_end) ?_
 clear hF hS; intro a w hF hS
 refine wpList_nil ?_
 refine hK1 _ _ ?_
 clear hK1
 refine wp_seq_k ?_; intro K2 hK2
 refine wp_seq_k ?_; intro K3 hK3
 refine reg hF hS (sq rfl (q_ld_blkW ty50 0 rfl rfl bQ rfl) <|
   sq rfl (q_ld_blkW ty29 1 rfl rfl bQ rfl) <|
   sq rfl (q_call fn61 rfl (fun w hS => under_ct (⟨qf, qs, ql, qd⟩ : Mk.Pf) _ _ rd (by first | with_reducible assumption | omega) w (Sl.mono (hS.le zin0) hb) (Sl.mono (hS.le zin0) hsd) (hS.ext _ _ hg1)) (fun _ _ _ h => h)) <|
   sq rfl (q_not rfl) <|
   sq_end) ?_
 clear hF hS; intro a w hF hS
 refine hK3 _ _ ?_
 clear hK3
 refine wp_if hF rfl (fun hc1 => ?_) (fun hc1 => ?_)
 ·have hu : Mk.undB ⟨qf, qs, ql, qd⟩ rd = false := by simpa using hc1
  refine wp_seq_k ?_; intro K4 hK4
  refine reg hF hS (sq rfl (q_assign rfl) <|
    sq rfl (q_assign rfl) <|
    sq rfl (q_assign rfl) <|
    sq_end) ?_
  clear hF hS; intro a w hF hS
  refine hK4 _ _ ?_
  clear hK4
  refine wp_ret ?_
  exact fn_ret (rs := [.tmp 6, .tmp 7, .tmp 8]) rfl hF hS (vs := [_, _, _]) ⟨rfl, rfl, rfl, trivial⟩ zQ zQ (by rw [Mk.chk_n hu])
 ·have hu : Mk.undB ⟨qf, qs, ql, qd⟩ rd = true := by simpa using hc1
  have hok := Mk.und_ok hu
  have hv0 : Mk.vE ql = 0 := hok.2.2.2.2.2
  have hva := Mk.vE_asc hv0
  have hrg : 0 ≤ qs ∧ qs ≤ 4096 ∧ 0 ≤ qf ∧ qf ≤ qs ∧ qf + ql.length ≤ qs := ⟨hok.1, hok.2.1, hok.2.2.1, hok.2.2.2.1, hok.2.2.2.2.1⟩
  have hfl := Mk.frm_le ql k
  refine wp_skip ?_
  refine hK2 _ _ ?_
  clear hK2
  refine wp_seq_k ?_; intro K5 hK5
  refine reg hF hS (sq rfl (q_fieldAddr ty50 rfl rfl (s' := 0) kQ) <|
    sq rfl (q_ld_blk1 ty33 0 rfl rfl rfl rfl) <|
    sq rfl (q_move rfl) <|
    sq rfl (q_call fn56 rfl (fun w hS => from_ct _ _ _ hva.1 (by omega) w (Sl.mono (hS.le zin0) hb)) (fun _ _ _ h => h)) <|
    sq rfl (q_assign rfl) <|
    sq_end) ?_
  clear hF hS; intro a w hF hS
  refine hK5 _ _ ?_
  clear hK5
  refine wp_seq_k ?_; intro K6 hK6
  refine wp_block ?_
  refine wp_seq_k ?_; intro K7 hK7
  refine regl ?_
  refine wpl_sq hF hS (sq rfl (q_move rfl) <|
    sq rfl (q_fieldAddr ty50 rfl rfl (s' := 0) kQ) <|
    sq rfl (q_ld_blk1 ty33 0 rfl rfl rfl rfl) <|
    sq rfl (q_len_sl ty33 hb rfl) <|
    sq rfl (q_lti rfl rfl) <|
    sq rfl (q_move rfl) <|
    sq_end) ?_
  clear hF hS; intro a w hF hS
  refine wpl_and 5 24 8 hF hS rfl rfl rfl rfl rfl (fun hg => have hg := (by first | exact of_decide_eq_true hg | exact hg); sq_go 24 rfl rfl rfl (q_fieldAddr ty50 rfl rfl (s' := 0) kQ) <|
    sq_go 24 rfl rfl rfl (q_ld_blk1 ty33 0 rfl rfl rfl rfl) <|
    sq_go 24 rfl rfl rfl (q_move rfl) <|
    sq_go 24 rfl rfl rfl (q_idx_sl ty33 ty41 hb rfl rfl (by omega)) <|
    sq_go 24 rfl rfl rfl (q_fld_F ty41 hb rfl (by omega) rfl (s' := 0) kQ) <|
    sq_go 24 rfl rfl rfl (q_ld_FK ty9 hb zin0 rfl rfl (by omega)) <|
    sq_go 24 rfl rfl rfl (q_move rfl) <|
    sq_go 24 rfl rfl rfl (q_eqs rfl rfl) <|
    sq_end) rfl rfl ?_
  clear hF hS; intro a w hF hS
  refine wpl_sq hF hS (sq rfl (q_assign rfl) <|
    sq_end) ?_
  clear hF hS; intro a w hF hS
  refine wpList_nil ?_
  refine hK7 _ _ ?_
  clear hK7
  refine wp_if hF rfl (fun hc2 => ?_) (fun hc2 => ?_)
  ·(try simp only [Bool.or_eq_true, Bool.and_eq_true, Bool.or_eq_false_iff, Bool.and_eq_false_iff, decide_eq_true_eq, decide_eq_false_iff_not, Bool.not_eq_true', Bool.not_eq_false'] at hc2)
   have hfd : Mk.fnd ql k = true := by
    simp only [Int.toNat_natCast] at hc2
    exact Mk.fnd_t (by omega) hc2.2
   have hfd2 := (Mk.fnd_iff.1 hfd).1
   refine wp_seq_k ?_; intro K8 hK8
   refine reg hF hS (sq rfl (q_fieldAddr ty50 rfl rfl (s' := 0) kQ) <|
     sq rfl (q_ld_blk1 ty33 0 rfl rfl rfl rfl) <|
     sq rfl (q_move rfl) <|
     sq rfl (q_idx_sl ty33 ty41 hb rfl rfl (by omega)) <|
     sq rfl (q_fld_F ty41 hb rfl (by omega) rfl (s' := 0) kQ) <|
     sq rfl (q_ld_FV ty9 hb zin0 rfl rfl (by omega)) <|
     sq rfl (q_assign rfl) <|
     sq rfl (q_assign rfl) <|
     sq rfl (q_assign rfl) <|
     sq_end) ?_
   clear hF hS; intro a w hF hS
   refine hK8 _ _ ?_
   clear hK8
   refine wp_ret ?_
   exact fn_ret (rs := [.tmp 6, .tmp 7, .tmp 8]) rfl hF hS (vs := [_, _, _]) ⟨rfl, rfl, rfl, trivial⟩ zQ zQ (by rw [Mk.chk_t hu hfd, Int.toNat_natCast])
  ·(try simp only [Bool.or_eq_true, Bool.and_eq_true, Bool.or_eq_false_iff, Bool.and_eq_false_iff, decide_eq_true_eq, decide_eq_false_iff_not, Bool.not_eq_true', Bool.not_eq_false'] at hc2)
   have hfd : Mk.fnd ql k = false := by
    simp only [Int.toNat_natCast] at hc2
    exact Mk.fnd_f (fun h9 => by rcases hc2 with h | h; exact h (by omega); exact h h9.2)
   refine wp_seq_k ?_; intro K9 hK9
   refine regl ?_
   refine wpl_sq hF hS (sq rfl (q_move rfl) <|
     sq rfl (q_gti rfl rfl) <|
     sq rfl (q_move rfl) <|
     sq_end) ?_
   clear hF hS; intro a w hF hS
   refine wpl_or 2 43 3 hF hS rfl rfl rfl rfl rfl (fun hg => have hg := (by first | exact of_decide_eq_false hg | exact hg); sq_go 43 rfl rfl rfl (q_fieldAddr ty50 rfl rfl (s' := 0) kQ) <|
     sq_go 43 rfl rfl rfl (q_ld_blk1 ty3 0 rfl rfl rfl rfl) <|
     sq_go 43 rfl rfl rfl (q_eqi rfl rfl) <|
     sq_end) rfl rfl ?_
   clear hF hS; intro a w hF hS
   refine wpl_sq hF hS (sq rfl (q_move rfl) <|
     sq_end) ?_
   clear hF hS; intro a w hF hS
   refine wpl_andG (q := (decide (((Mk.frm ql k : Nat) : Int) < (ql.length : Int)) || decide (qf + (ql.length : Int) = qs))) 48 16 hF hS rfl (by rfl) rfl (fun _ => sq_skip 48 rfl rfl rfl rfl <|
     sq_skip 48 rfl rfl rfl rfl <|
     sq_skip 48 rfl rfl rfl rfl <|
     sq_skip 48 rfl rfl rfl rfl <|
     sq_skip 48 rfl rfl rfl rfl <|
     sq_skip 48 rfl rfl rfl rfl <|
     sq_skipu 54 rfl rfl rfl <|
     sq_skipu 54 rfl rfl rfl <|
     sq_skipu 54 rfl rfl rfl <|
     sq_skipu 54 rfl rfl rfl <|
     sq_skipu 54 rfl rfl rfl <|
     sq_skipu 54 rfl rfl rfl <|
     sq_skipu 54 rfl rfl rfl <|
     sq_skipu 54 rfl rfl rfl <|
     sq_skipu 54 rfl rfl rfl <|
     sq_skip 48 rfl rfl rfl rfl <|
     sq_end) rfl (fun hg a w hF hS KG => ?_) ?_
   ·have hg := hg
    refine wpl_sq hF hS (sq_go 48 rfl rfl rfl (q_move rfl) <|
      sq_go 48 rfl rfl rfl (q_fieldAddr ty50 rfl rfl (s' := 0) kQ) <|
      sq_go 48 rfl rfl rfl (q_ld_blk1 ty33 0 rfl rfl rfl rfl) <|
      sq_go 48 rfl rfl rfl (q_len_sl ty33 hb rfl) <|
      sq_go 48 rfl rfl rfl (q_lti rfl rfl) <|
      sq_go 48 rfl rfl rfl (q_move rfl) <|
      sq_end) ?_
    clear hF hS; intro a w hF hS
    refine wpl_orP 13 54 9 7 48 hF hS rfl rfl rfl rfl rfl rfl rfl (fun hg2 => have hg2 := (by first | exact of_decide_eq_false hg2 | exact hg2); sq_go 54 rfl rfl rfl (q_fieldAddr ty50 rfl rfl (s' := 0) kQ) <|
      sq_go 54 rfl rfl rfl (q_ld_blk1 ty3 0 rfl rfl rfl rfl) <|
      sq_go 54 rfl rfl rfl (q_fieldAddr ty50 rfl rfl (s' := 0) kQ) <|
      sq_go 54 rfl rfl rfl (q_ld_blk1 ty33 0 rfl rfl rfl rfl) <|
      sq_go 54 rfl rfl rfl (q_len_sl ty33 hb rfl) <|
      sq_go 54 rfl rfl rfl (q_addi rfl rfl (by omega)) <|
      sq_go 54 rfl rfl rfl (q_fieldAddr ty50 rfl rfl (s' := 0) kQ) <|
      sq_go 54 rfl rfl rfl (q_ld_blk1 ty3 0 rfl rfl rfl rfl) <|
      sq_go 54 rfl rfl rfl (q_eqi rfl rfl) <|
      sq_end) rfl rfl ?_
    clear hF hS; intro a w hF hS
    refine wpl_sq hF hS (sq rfl (q_pick_t rfl rfl) <|
      sq_end) ?_
    clear hF hS; intro a w hF hS
    exact KG _ _ (hF.under 7 rfl rfl) hS
   clear hF hS; intro a w hF hS
   refine wpl_sq hF hS (sq rfl (q_assign rfl) <|
     sq_end) ?_
   clear hF hS; intro a w hF hS
   refine wpList_nil ?_
   refine hK9 _ _ ?_
   clear hK9
   refine wp_if hF rfl (fun hc3 => ?_) (fun hc3 => ?_)
   ·(try simp only [Bool.or_eq_true, Bool.and_eq_true, Bool.or_eq_false_iff, Bool.and_eq_false_iff, decide_eq_true_eq, decide_eq_false_iff_not, Bool.not_eq_true', Bool.not_eq_false'] at hc3)
    refine wp_seq_k ?_; intro K10 hK10
    refine reg hF hS (sq rfl (q_assign rfl) <|
      sq rfl (q_assign rfl) <|
      sq rfl (q_assign rfl) <|
      sq_end) ?_
    clear hF hS; intro a w hF hS
    refine hK10 _ _ ?_
    clear hK10
    refine wp_ret ?_
    exact fn_ret (rs := [.tmp 6, .tmp 7, .tmp 8]) rfl hF hS (vs := [_, _, _]) ⟨rfl, rfl, rfl, trivial⟩ zQ zQ (by rw [Mk.chk_f hu hfd (by dsimp only; omega)])
   ·(try simp only [Bool.or_eq_true, Bool.and_eq_true, Bool.or_eq_false_iff, Bool.and_eq_false_iff, decide_eq_true_eq, decide_eq_false_iff_not, Bool.not_eq_true', Bool.not_eq_false'] at hc3)
    refine wp_skip ?_
    refine hK6 _ _ ?_
    clear hK6
    refine wp_seq_k ?_; intro K11 hK11
    refine reg hF hS (sq rfl (q_assign rfl) <|
      sq rfl (q_assign rfl) <|
      sq rfl (q_assign rfl) <|
      sq_end) ?_
    clear hF hS; intro a w hF hS
    refine hK11 _ _ ?_
    clear hK11
    refine wp_ret ?_
    exact fn_ret (rs := [.tmp 6, .tmp 7, .tmp 8]) rfl hF hS (vs := [_, _, _]) ⟨rfl, rfl, rfl, trivial⟩ zQ zQ (by rw [Mk.chk_x hu hfd (by dsimp only; omega)])

set_option maxRecDepth 4000 in
set_option maxHeartbeats 2000000 in
theorem rcheck_ct (q : Mk.Pf) (lv sv : Value) (rd k : List UInt8) (hr : rd.length = 16) (w : World) (hb : Sl encF (ph w) lv q.lv) (hsd : Sl (encA 16) (ph w) sv q.sd) {fz0 : Nat × Nat} {bt0 : TypeId} (hg0 : w.heap[0]? = some (.cells (Sha.kc.map vw).toArray bt0 fz0)) : Ct Tryd.prog 31 [.agg ((rd).map vb).toArray, vs k, .agg [vi q.fst, vi q.sz, lv, sv].toArray] w (fun r _ _ => r = .tuple [vs (Mk.chkE rd k q).1, .bool (Mk.chkE rd k q).2.1, vi (Mk.chkE rd k q).2.2].toArray) := by
 refine fn_enter Tryd.func31 rfl Tryd.ntmps31 (Nat.le_of_ble_eq_true rfl) fun a hF hS => ?_
 obtain ⟨qf, qs, ql, qd⟩ := q
 dsimp only at hF hb hsd
 have hbl := hb.1
 have hdl : qd.length ≤ 140737488355328 := hsd.1
 have hs16 : ∀ d ∈ qd, d.length = 16 := sl_A hsd
 refine wp_seq_k ?_; intro K1 hK1
 refine regl ?_
 refine wpl_ef hF hS rfl (ef_boxA rfl) ?_
 clear hF hS; rintro _ _ _ a w ⟨b1, rfl, rfl, rfl⟩ hF hS
 refine wpl_ef hF hS rfl (ef_boxA rfl) ?_
 clear hF hS; rintro _ _ _ a w ⟨b2, rfl, rfl, rfl⟩ hF hS
 refine wpl_sq hF hS (sq rfl (q_assign rfl) <|
   sq rfl (q_assign rfl) <|
   sq rfl (q_assign rfl) <|
   sq_end) ?_
 clear hF hS; intro a w hF hS
 refine wpList_nil ?_
 refine hK1 _ _ ?_
 clear hK1
 refine wp_seq_k ?_; intro K2 hK2
 refine wp_seq_k ?_; intro K3 hK3
 refine reg hF hS (sq rfl (q_ld_blkW ty29 1 rfl rfl bQ rfl) <|
   sq rfl (q_ld_blkW ty54 0 rfl rfl bQ rfl) <|
   sq rfl (q_call fn62 rfl (fun w hS => runder_ct (⟨qf, qs, ql, qd⟩ : Mk.Pf) _ _ rd (by first | with_reducible assumption | omega) w (Sl.mono (hS.le zin0) hb) (Sl.mono (hS.le zin0) hsd) (hS.ext _ _ hg0)) (fun _ _ _ h => h)) <|
   sq rfl (q_not rfl) <|
   sq_end) ?_
 clear hF hS; intro a w hF hS
 refine hK3 _ _ ?_
 clear hK3
 refine wp_if hF rfl (fun hc1 => ?_) (fun hc1 => ?_)
 ·have hu : Mk.undB ⟨qf, qs, ql, qd⟩ rd = false := by simpa using hc1
  refine wp_seq_k ?_; intro K4 hK4
  refine reg hF hS (sq rfl (q_assign rfl) <|
    sq rfl (q_assign rfl) <|
    sq rfl (q_assign rfl) <|
    sq_end) ?_
  clear hF hS; intro a w hF hS
  refine hK4 _ _ ?_
  clear hK4
  refine wp_ret ?_
  exact fn_ret (rs := [.tmp 6, .tmp 7, .tmp 8]) rfl hF hS (vs := [_, _, _]) ⟨rfl, rfl, rfl, trivial⟩ zQ zQ (by rw [Mk.chk_n hu])
 ·have hu : Mk.undB ⟨qf, qs, ql, qd⟩ rd = true := by simpa using hc1
  have hok := Mk.und_ok hu
  have hv0 : Mk.vE ql = 0 := hok.2.2.2.2.2
  have hva := Mk.vE_asc hv0
  have hrg : 0 ≤ qs ∧ qs ≤ 4096 ∧ 0 ≤ qf ∧ qf ≤ qs ∧ qf + ql.length ≤ qs := ⟨hok.1, hok.2.1, hok.2.2.1, hok.2.2.2.1, hok.2.2.2.2.1⟩
  have hfl := Mk.frm_le ql k
  refine wp_skip ?_
  refine hK2 _ _ ?_
  clear hK2
  refine wp_seq_k ?_; intro K5 hK5
  refine reg hF hS (sq rfl (q_fieldAddr ty54 rfl rfl (s' := 0) kQ) <|
    sq rfl (q_ld_blk1 ty24 0 rfl rfl rfl rfl) <|
    sq rfl (q_move rfl) <|
    sq rfl (q_call fn35 rfl (fun w hS => rhas_ct _ _ _ w (Sl.mono (hS.le zin0) hb)) (fun _ _ _ h => h)) <|
    sq rfl (q_assign rfl) <|
    sq_end) ?_
  clear hF hS; intro a w hF hS
  refine hK5 _ _ ?_
  clear hK5
  refine wp_seq_k ?_; intro K6 hK6
  refine wp_seq_k ?_; intro K7 hK7
  refine reg hF hS (sq rfl (q_move rfl) <|
    sq rfl (q_gei rfl rfl) <|
    sq_end) ?_
  clear hF hS; intro a w hF hS
  refine hK7 _ _ ?_
  clear hK7
  refine wp_ifd hF rfl (fun hc2 => ?_) (fun hc2 => ?_)
  ·have hfd : Mk.fnd ql k = true := (Mk.has_fnd hv0 k).1 hc2
   have hfd2 := (Mk.fnd_iff.1 hfd).1
   have hhi := Mk.hasI_frm hv0 hc2
   refine wp_seq_k ?_; intro K8 hK8
   refine reg hF hS (sq rfl (q_fieldAddr ty54 rfl rfl (s' := 0) kQ) <|
     sq rfl (q_ld_blk1 ty24 0 rfl rfl rfl rfl) <|
     sq rfl (q_move rfl) <|
     sq rfl (q_idx_sl ty24 ty75 hb rfl rfl (by omega)) <|
     sq rfl (q_fld_F ty75 hb rfl (by omega) rfl (s' := 0) kQ) <|
     sq rfl (q_ld_FV ty9 hb zin0 rfl rfl (by omega)) <|
     sq rfl (q_assign rfl) <|
     sq rfl (q_assign rfl) <|
     sq rfl (q_assign rfl) <|
     sq_end) ?_
   clear hF hS; intro a w hF hS
   refine hK8 _ _ ?_
   clear hK8
   refine wp_ret ?_
   exact fn_ret (rs := [.tmp 6, .tmp 7, .tmp 8]) rfl hF hS (vs := [_, _, _]) ⟨rfl, rfl, rfl, trivial⟩ zQ zQ (by rw [Mk.chk_t hu hfd, hhi, Int.toNat_natCast])
  ·have hfd : Mk.fnd ql k = false := by
    cases h9 : Mk.fnd ql k with
    | false => rfl
    | true => exact absurd ((Mk.has_fnd hv0 k).2 h9) hc2
   refine wp_skip ?_
   refine hK6 _ _ ?_
   clear hK6
   refine wp_seq_k ?_; intro K9 hK9
   refine reg hF hS (sq rfl (q_fieldAddr ty54 rfl rfl (s' := 0) kQ) <|
     sq rfl (q_ld_blk1 ty24 0 rfl rfl rfl rfl) <|
     sq rfl (q_move rfl) <|
     sq rfl (q_call fn58 rfl (fun w hS => rfrom_ct _ _ _ w (Sl.mono (hS.le zin0) hb)) (fun _ _ _ h => h)) <|
     sq rfl (q_assign rfl) <|
     sq_end) ?_
   clear hF hS; intro a w hF hS
   refine hK9 _ _ ?_
   clear hK9
   refine wp_seq_k ?_; intro K10 hK10
   refine regl ?_
   refine wpl_sq hF hS (sq rfl (q_move rfl) <|
     sq rfl (q_gti rfl rfl) <|
     sq rfl (q_move rfl) <|
     sq_end) ?_
   clear hF hS; intro a w hF hS
   refine wpl_or 2 35 3 hF hS rfl rfl rfl rfl rfl (fun hg => have hg := (by first | exact of_decide_eq_false hg | exact hg); sq_go 35 rfl rfl rfl (q_fieldAddr ty54 rfl rfl (s' := 0) kQ) <|
     sq_go 35 rfl rfl rfl (q_ld_blk1 ty3 0 rfl rfl rfl rfl) <|
     sq_go 35 rfl rfl rfl (q_eqi rfl rfl) <|
     sq_end) rfl rfl ?_
   clear hF hS; intro a w hF hS
   refine wpl_sq hF hS (sq rfl (q_assign rfl) <|
     sq_end) ?_
   clear hF hS; intro a w hF hS
   refine wpList_nil ?_
   refine hK10 _ _ ?_
   clear hK10
   refine wp_seq_k ?_; intro K11 hK11
   refine regl ?_
   refine wpl_sq hF hS (sq rfl (q_move rfl) <|
     sq rfl (q_fieldAddr ty54 rfl rfl (s' := 0) kQ) <|
     sq rfl (q_ld_blk1 ty24 0 rfl rfl rfl rfl) <|
     sq rfl (q_len_sl ty24 hb rfl) <|
     sq rfl (q_lti rfl rfl) <|
     sq rfl (q_move rfl) <|
     sq_end) ?_
   clear hF hS; intro a w hF hS
   refine wpl_or 5 45 9 hF hS rfl rfl rfl rfl rfl (fun hg => have hg := (by first | exact of_decide_eq_false hg | exact hg); sq_go 45 rfl rfl rfl (q_fieldAddr ty54 rfl rfl (s' := 0) kQ) <|
     sq_go 45 rfl rfl rfl (q_ld_blk1 ty3 0 rfl rfl rfl rfl) <|
     sq_go 45 rfl rfl rfl (q_fieldAddr ty54 rfl rfl (s' := 0) kQ) <|
     sq_go 45 rfl rfl rfl (q_ld_blk1 ty24 0 rfl rfl rfl rfl) <|
     sq_go 45 rfl rfl rfl (q_len_sl ty24 hb rfl) <|
     sq_go 45 rfl rfl rfl (q_addi rfl rfl (by omega)) <|
     sq_go 45 rfl rfl rfl (q_fieldAddr ty54 rfl rfl (s' := 0) kQ) <|
     sq_go 45 rfl rfl rfl (q_ld_blk1 ty3 0 rfl rfl rfl rfl) <|
     sq_go 45 rfl rfl rfl (q_eqi rfl rfl) <|
     sq_end) rfl rfl ?_
   clear hF hS; intro a w hF hS
   refine wpl_sq hF hS (sq rfl (q_assign rfl) <|
     sq_end) ?_
   clear hF hS; intro a w hF hS
   refine wpList_nil ?_
   refine hK11 _ _ ?_
   clear hK11
   refine wp_seq_k ?_; intro K12 hK12
   refine wp_seq_k ?_; intro K13 hK13
   refine regl ?_
   refine wpl_sq hF hS (sq rfl (q_move rfl) <|
     sq rfl (q_move rfl) <|
     sq_end) ?_
   clear hF hS; intro a w hF hS
   refine wpl_and 1 57 1 hF hS rfl rfl rfl rfl rfl (fun hg => have hg := hg; sq_go 57 rfl rfl rfl (q_move rfl) <|
     sq_end) rfl rfl ?_
   clear hF hS; intro a w hF hS
   refine wpList_nil ?_
   refine hK13 _ _ ?_
   clear hK13
   refine wp_if hF rfl (fun hc3 => ?_) (fun hc3 => ?_)
   ·(try simp only [Bool.or_eq_true, Bool.and_eq_true, Bool.or_eq_false_iff, Bool.and_eq_false_iff, decide_eq_true_eq, decide_eq_false_iff_not, Bool.not_eq_true', Bool.not_eq_false'] at hc3)
    refine wp_seq_k ?_; intro K14 hK14
    refine reg hF hS (sq rfl (q_assign rfl) <|
      sq rfl (q_assign rfl) <|
      sq rfl (q_assign rfl) <|
      sq_end) ?_
    clear hF hS; intro a w hF hS
    refine hK14 _ _ ?_
    clear hK14
    refine wp_ret ?_
    exact fn_ret (rs := [.tmp 6, .tmp 7, .tmp 8]) rfl hF hS (vs := [_, _, _]) ⟨rfl, rfl, rfl, trivial⟩ zQ zQ (by rw [Mk.chk_f hu hfd (by dsimp only; omega)])
   ·(try simp only [Bool.or_eq_true, Bool.and_eq_true, Bool.or_eq_false_iff, Bool.and_eq_false_iff, decide_eq_true_eq, decide_eq_false_iff_not, Bool.not_eq_true', Bool.not_eq_false'] at hc3)
    refine wp_skip ?_
    refine hK12 _ _ ?_
    clear hK12
    refine wp_seq_k ?_; intro K15 hK15
    refine reg hF hS (sq rfl (q_assign rfl) <|
      sq rfl (q_assign rfl) <|
      sq rfl (q_assign rfl) <|
      sq_end) ?_
    clear hF hS; intro a w hF hS
    refine hK15 _ _ ?_
    clear hK15
    refine wp_ret ?_
    exact fn_ret (rs := [.tmp 6, .tmp 7, .tmp 8]) rfl hF hS (vs := [_, _, _]) ⟨rfl, rfl, rfl, trivial⟩ zQ zQ (by rw [Mk.chk_x hu hfd (by dsimp only; omega)])

set_option maxRecDepth 4000 in
set_option maxHeartbeats 2000000 in
theorem chkr_ct (q : Mk.Pf) (lv sv : Value) (rd k m : List UInt8) (hr : rd.length = 16) (w : World) (hb : Sl encF (ph w) lv q.lv) (hsd : Sl (encA 16) (ph w) sv q.sd) {fz1 : Nat × Nat} {bt1 : TypeId} (hg1 : w.heap[2]? = some (.cells (Sha.kc.map vw).toArray bt1 fz1)) : Ct Tryd.prog 32 [.agg ((rd).map vb).toArray, vs k, vs m, .agg [vi q.fst, vi q.sz, lv, sv].toArray] w (SlE encF (Mk.chkR rd k m q).1 (Mk.chkR rd k m q).2) := by
 refine fn_enter Tryd.func32 rfl Tryd.ntmps32 (Nat.le_of_ble_eq_true rfl) fun a hF hS => ?_
 obtain ⟨qf, qs, ql, qd⟩ := q
 dsimp only at hF hb hsd
 have hbl := hb.1
 have hdl : qd.length ≤ 140737488355328 := hsd.1
 have hs16 : ∀ d ∈ qd, d.length = 16 := sl_A hsd
 refine wp_seq_k ?_; intro K1 hK1
 refine regl ?_
 refine wpl_ef hF hS rfl (ef_boxA rfl) ?_
 clear hF hS; rintro _ _ _ a w ⟨b1, rfl, rfl, rfl⟩ hF hS
 refine wpl_ef hF hS rfl (ef_boxA rfl) ?_
 clear hF hS; rintro _ _ _ a w ⟨b2, rfl, rfl, rfl⟩ hF hS
 refine wpl_sq hF hS (sq rfl (q_assign rfl) <|
   sq rfl (q_assign rfl) <|
   sq_end) ?_
 clear hF hS; intro a w hF hS
 refine wpList_nil ?_
 refine hK1 _ _ ?_
 clear hK1
 refine wp_seq_k ?_; intro K2 hK2
 refine wp_seq_k ?_; intro K3 hK3
 refine reg hF hS (sq rfl (q_move rfl) <|
   sq rfl (q_move rfl) <|
   sq rfl (q_lts rfl rfl) <|
   sq_end) ?_
 clear hF hS; intro a w hF hS
 refine hK3 _ _ ?_
 clear hK3
 refine wp_if hF rfl (fun hc1 => ?_) (fun hc1 => ?_)
 ·have hlm : Mk.lt m k = true := hc1
  refine wp_seq_k ?_; intro K4 hK4
  refine reg hF hS (sq rfl (q_assign rfl) <|
    sq rfl (q_assign rfl) <|
    sq_end) ?_
  clear hF hS; intro a w hF hS
  refine hK4 _ _ ?_
  clear hK4
  refine wp_ret ?_
  replace hS := hS.zone00
  exact fn_ret (rs := [.tmp 8, .tmp 9]) rfl hF hS (vs := [_, _]) ⟨rfl, rfl, trivial⟩ (zs' := [_]) (hs' := []) (List.singleton_sublist.2 (by simp)) zQ (se_of ⟨_, _, (sl_nil (z := fun _ => none)), rfl, rfl, rfl⟩ (by rw [Mk.chkR_5 hlm]) (by rw [Mk.chkR_5 hlm]))
 ·have hlm : Mk.lt m k = false := hc1
  refine wp_skip ?_
  refine hK2 _ _ ?_
  clear hK2
  refine wp_seq_k ?_; intro K5 hK5
  refine wp_seq_k ?_; intro K6 hK6
  refine reg hF hS (sq rfl (q_ld_blkW ty50 0 rfl rfl bQ rfl) <|
    sq rfl (q_ld_blkW ty29 1 rfl rfl bQ rfl) <|
    sq rfl (q_call fn61 rfl (fun w hS => under_ct (⟨qf, qs, ql, qd⟩ : Mk.Pf) _ _ rd (by first | with_reducible assumption | omega) w (Sl.mono (hS.le zin0) hb) (Sl.mono (hS.le zin0) hsd) (hS.ext _ _ hg1)) (fun _ _ _ h => h)) <|
    sq rfl (q_not rfl) <|
    sq_end) ?_
  clear hF hS; intro a w hF hS
  refine hK6 _ _ ?_
  clear hK6
  refine wp_if hF rfl (fun hc2 => ?_) (fun hc2 => ?_)
  ·have hu : Mk.undB ⟨qf, qs, ql, qd⟩ rd = false := by simpa using hc2
   refine wp_seq_k ?_; intro K7 hK7
   refine reg hF hS (sq rfl (q_assign rfl) <|
     sq rfl (q_assign rfl) <|
     sq_end) ?_
   clear hF hS; intro a w hF hS
   refine hK7 _ _ ?_
   clear hK7
   refine wp_ret ?_
   replace hS := hS.zone00
   exact fn_ret (rs := [.tmp 8, .tmp 9]) rfl hF hS (vs := [_, _]) ⟨rfl, rfl, trivial⟩ (zs' := [_]) (hs' := []) (List.singleton_sublist.2 (by simp)) zQ (se_of ⟨_, _, (sl_nil (z := fun _ => none)), rfl, rfl, rfl⟩ (by rw [Mk.chkR_n hlm hu]) (by rw [Mk.chkR_n hlm hu]))
  ·have hu : Mk.undB ⟨qf, qs, ql, qd⟩ rd = true := by simpa using hc2
   have hok := Mk.und_ok hu
   have hv0 : Mk.vE ql = 0 := hok.2.2.2.2.2
   have hva := Mk.vE_asc hv0
   have hrg : 0 ≤ qs ∧ qs ≤ 4096 ∧ 0 ≤ qf ∧ qf ≤ qs ∧ qf + ql.length ≤ qs := ⟨hok.1, hok.2.1, hok.2.2.1, hok.2.2.2.1, hok.2.2.2.2.1⟩
   have hfl := Mk.frm_le ql k
   have hfm := Mk.frm_le ql m
   have hmo := Mk.frm_mono (ls := ql) hlm
   refine wp_skip ?_
   refine hK5 _ _ ?_
   clear hK5
   refine wp_seq_k ?_; intro K8 hK8
   refine regd mixed kQ hF hS (sq rfl (q_fieldAddr ty50 rfl rfl (s' := 0) kQ) <|
     sq rfl (q_ld_blk1 ty33 0 rfl rfl rfl rfl) <|
     sq rfl (q_move rfl) <|
     sq rfl (q_call fn56 rfl (fun w hS => from_ct _ _ _ hva.1 (by omega) w (Sl.mono (hS.le zin0) hb)) (fun _ _ _ h => h)) <|
     sq rfl (q_fieldAddr ty50 rfl rfl (s' := 0) kQ) <|
     sq rfl (q_ld_blk1 ty33 0 rfl rfl rfl rfl) <|
     sq rfl (q_move rfl) <|
     sq rfl (q_call fn56 rfl (fun w hS => from_ct _ _ _ hva.1 (by omega) w (Sl.mono (hS.le zin0) hb)) (fun _ _ _ h => h)) <|
     sq rfl (q_fieldAddr ty50 rfl rfl (s' := 0) kQ) <|
     sq rfl (q_ld_blk1 ty33 0 rfl rfl rfl rfl) <|
     sq rfl (q_len_sl ty33 hb rfl) <|
     sq rfl (q_assign rfl) <|
     sq rfl (q_assign rfl) <|
     sq rfl (q_assign rfl) <|
     sq_end) ?_
   clear hF hS; intro a w hF hS
   refine hK8 _ _ ?_
   clear hK8
   refine wp_seq_k ?_; intro K9 hK9
   refine wp_seq_k ?_; intro K10 hK10
   refine regl ?_
   refine wpl_sq hF hS (sq rfl (q_fieldAddr ty50 rfl rfl (s' := 0) kQ) <|
     sq rfl (q_ld_blk1 ty3 0 rfl rfl rfl rfl) <|
     sq rfl (q_gti rfl rfl) <|
     sq rfl (q_move rfl) <|
     sq_end) ?_
   clear hF hS; intro a w hF hS
   refine wpl_and 3 34 2 hF hS rfl rfl rfl rfl rfl (fun hg => have hg := (by first | exact of_decide_eq_true hg | exact hg); sq_go 34 rfl rfl rfl (q_move rfl) <|
     sq_go 34 rfl rfl rfl (q_eqi rfl rfl) <|
     sq_end) rfl rfl ?_
   clear hF hS; intro a w hF hS
   refine wpl_sq hF hS (sq rfl (q_move rfl) <|
     sq_end) ?_
   clear hF hS; intro a w hF hS
   refine wpl_orG (q := (decide (qf + (ql.length : Int) < qs) && decide (((Mk.frm ql m : Nat) : Int) = (ql.length : Int)))) 38 12 hF hS rfl (by rfl) rfl (fun _ => sq_skip 38 rfl rfl rfl rfl <|
     sq_skip 38 rfl rfl rfl rfl <|
     sq_skip 38 rfl rfl rfl rfl <|
     sq_skip 38 rfl rfl rfl rfl <|
     sq_skip 38 rfl rfl rfl rfl <|
     sq_skip 38 rfl rfl rfl rfl <|
     sq_skip 38 rfl rfl rfl rfl <|
     sq_skip 38 rfl rfl rfl rfl <|
     sq_skipu 46 rfl rfl rfl <|
     sq_skipu 46 rfl rfl rfl <|
     sq_skipu 46 rfl rfl rfl <|
     sq_skip 38 rfl rfl rfl rfl <|
     sq_end) rfl (fun hg a w hF hS KG => ?_) ?_
   ·have hg := hg
    refine wpl_sq hF hS (sq_go 38 rfl rfl rfl (q_fieldAddr ty50 rfl rfl (s' := 0) kQ) <|
      sq_go 38 rfl rfl rfl (q_ld_blk1 ty3 0 rfl rfl rfl rfl) <|
      sq_go 38 rfl rfl rfl (q_move rfl) <|
      sq_go 38 rfl rfl rfl (q_addi rfl rfl (by omega)) <|
      sq_go 38 rfl rfl rfl (q_fieldAddr ty50 rfl rfl (s' := 0) kQ) <|
      sq_go 38 rfl rfl rfl (q_ld_blk1 ty3 0 rfl rfl rfl rfl) <|
      sq_go 38 rfl rfl rfl (q_lti rfl rfl) <|
      sq_go 38 rfl rfl rfl (q_move rfl) <|
      sq_end) ?_
    clear hF hS; intro a w hF hS
    refine wpl_andP 15 46 3 7 38 hF hS rfl rfl rfl rfl rfl rfl rfl (fun hg2 => have hg2 := (by first | exact of_decide_eq_true hg2 | exact hg2); sq_go 46 rfl rfl rfl (q_move rfl) <|
      sq_go 46 rfl rfl rfl (q_move rfl) <|
      sq_go 46 rfl rfl rfl (q_eqi rfl rfl) <|
      sq_end) rfl rfl ?_
    clear hF hS; intro a w hF hS
    refine wpl_sq hF hS (sq rfl (q_pick_f rfl rfl) <|
      sq_end) ?_
    clear hF hS; intro a w hF hS
    exact KG _ _ (hF.under 9 rfl rfl) hS
   clear hF hS; intro a w hF hS
   refine wpList_nil ?_
   refine hK10 _ _ ?_
   clear hK10
   refine wp_if hF rfl (fun hc3 => ?_) (fun hc3 => ?_)
   ·(try simp only [Bool.or_eq_true, Bool.and_eq_true, Bool.or_eq_false_iff, Bool.and_eq_false_iff, decide_eq_true_eq, decide_eq_false_iff_not, Bool.not_eq_true', Bool.not_eq_false'] at hc3)
    have hbd : Mk.badR ⟨qf, qs, ql, qd⟩ k m := by unfold Mk.badR; dsimp only; omega
    refine wp_seq_k ?_; intro K11 hK11
    refine reg hF hS (sq rfl (q_assign rfl) <|
      sq rfl (q_assign rfl) <|
      sq_end) ?_
    clear hF hS; intro a w hF hS
    refine hK11 _ _ ?_
    clear hK11
    refine wp_ret ?_
    replace hS := hS.zone00
    exact fn_ret (rs := [.tmp 8, .tmp 9]) rfl hF hS (vs := [_, _]) ⟨rfl, rfl, trivial⟩ (zs' := [_]) (hs' := []) (List.singleton_sublist.2 (by simp)) zQ (se_of ⟨_, _, (sl_nil (z := fun _ => none)), rfl, rfl, rfl⟩ (by rw [Mk.chkR_b hlm hu hbd]) (by rw [Mk.chkR_b hlm hu hbd]))
   ·(try simp only [Bool.or_eq_true, Bool.and_eq_true, Bool.or_eq_false_iff, Bool.and_eq_false_iff, decide_eq_true_eq, decide_eq_false_iff_not, Bool.not_eq_true', Bool.not_eq_false'] at hc3)
    have hbd : ¬ Mk.badR ⟨qf, qs, ql, qd⟩ k m := by unfold Mk.badR; dsimp only; omega
    refine wp_skip ?_
    refine hK9 _ _ ?_
    clear hK9
    refine wp_seq_k ?_; intro K12 hK12
    refine regl ?_
    refine wpl_sq hF hS (sq rfl (q_fieldAddr ty50 rfl rfl (s' := 0) kQ) <|
      sq rfl (q_ld_blk1 ty33 0 rfl rfl rfl rfl) <|
      sq rfl (q_move rfl) <|
      sq rfl (q_move rfl) <|
      sq rfl (q_slsl_lo_hi ty33 ty41 hb rfl rfl rfl (by omega)) <|
      sq_end) ?_
    clear hF hS; intro a w hF hS
    refine wpl_ef hF hS rfl (ef_call fn63 rfl (fun w hS => cloneL_ct _ _ (by rw [List.length_drop, List.length_take]; omega) w (Sl.mono (hS.le zin0) (Sl.cut hb (by omega))))) ?_
    clear hF hS; rintro v3 _ _ a w ⟨_, _, rfl, rfl, ⟨z4, hz5, rfl, rfl⟩⟩ hF hS
    replace hS : St _ [_] [_, _] _ := hS
    refine wpl_sq hF hS (sq rfl (q_assign rfl) <|
      sq rfl (q_assign rfl) <|
      sq_end) ?_
    clear hF hS; intro a w hF hS
    refine wpList_nil ?_
    refine hK12 _ _ ?_
    clear hK12
    refine wp_ret ?_
    exact fn_ret (rs := [.tmp 8, .tmp 9]) rfl hF hS (vs := [_, _]) ⟨rfl, rfl, trivial⟩ (zs' := [_]) (hs' := []) (List.singleton_sublist.2 (by simp)) zQ (se_of ⟨_, _, hz5, rfl, rfl, rfl⟩ (by rw [Mk.chkR_t hlm hu hbd, Int.toNat_natCast, Int.toNat_natCast]) (by rw [Mk.chkR_t hlm hu hbd]))

set_option maxRecDepth 4000 in
set_option maxHeartbeats 2000000 in
theorem rchkr_ct (q : Mk.Pf) (lv sv : Value) (rd k m : List UInt8) (hr : rd.length = 16) (w : World) (hb : Sl encF (ph w) lv q.lv) (hsd : Sl (encA 16) (ph w) sv q.sd) {fz0 : Nat × Nat} {bt0 : TypeId} (hg0 : w.heap[0]? = some (.cells (Sha.kc.map vw).toArray bt0 fz0)) : Ct Tryd.prog 33 [.agg ((rd).map vb).toArray, vs k, vs m, .agg [vi q.fst, vi q.sz, lv, sv].toArray] w (SlE encF (Mk.chkR rd k m q).1 (Mk.chkR rd k m q).2) := by
 refine fn_enter Tryd.func33 rfl Tryd.ntmps33 (Nat.le_of_ble_eq_true rfl) fun a hF hS => ?_
 obtain ⟨qf, qs, ql, qd⟩ := q
 dsimp only at hF hb hsd
 have hbl := hb.1
 have hdl : qd.length ≤ 140737488355328 := hsd.1
 have hs16 : ∀ d ∈ qd, d.length = 16 := sl_A hsd
 refine wp_seq_k ?_; intro K1 hK1
 refine regl ?_
 refine wpl_ef hF hS rfl (ef_boxA rfl) ?_
 clear hF hS; rintro _ _ _ a w ⟨b1, rfl, rfl, rfl⟩ hF hS
 refine wpl_ef hF hS rfl (ef_boxA rfl) ?_
 clear hF hS; rintro _ _ _ a w ⟨b2, rfl, rfl, rfl⟩ hF hS
 refine wpl_sq hF hS (sq rfl (q_assign rfl) <|
   sq rfl (q_assign rfl) <|
   sq_end) ?_
 clear hF hS; intro a w hF hS
 refine wpList_nil ?_
 refine hK1 _ _ ?_
 clear hK1
 refine wp_seq_k ?_; intro K2 hK2
 refine wp_seq_k ?_; intro K3 hK3
 refine reg hF hS (sq rfl (q_move rfl) <|
   sq rfl (q_move rfl) <|
   sq rfl (q_lts rfl rfl) <|
   sq_end) ?_
 clear hF hS; intro a w hF hS
 refine hK3 _ _ ?_
 clear hK3
 refine wp_if hF rfl (fun hc1 => ?_) (fun hc1 => ?_)
 ·have hlm : Mk.lt m k = true := hc1
  refine wp_seq_k ?_; intro K4 hK4
  refine reg hF hS (sq rfl (q_assign rfl) <|
    sq rfl (q_assign rfl) <|
    sq_end) ?_
  clear hF hS; intro a w hF hS
  refine hK4 _ _ ?_
  clear hK4
  refine wp_ret ?_
  replace hS := hS.zone00
  exact fn_ret (rs := [.tmp 8, .tmp 9]) rfl hF hS (vs := [_, _]) ⟨rfl, rfl, trivial⟩ (zs' := [_]) (hs' := []) (List.singleton_sublist.2 (by simp)) zQ (se_of ⟨_, _, (sl_nil (z := fun _ => none)), rfl, rfl, rfl⟩ (by rw [Mk.chkR_5 hlm]) (by rw [Mk.chkR_5 hlm]))
 ·have hlm : Mk.lt m k = false := hc1
  refine wp_skip ?_
  refine hK2 _ _ ?_
  clear hK2
  refine wp_seq_k ?_; intro K5 hK5
  refine wp_seq_k ?_; intro K6 hK6
  refine reg hF hS (sq rfl (q_ld_blkW ty29 1 rfl rfl bQ rfl) <|
    sq rfl (q_ld_blkW ty54 0 rfl rfl bQ rfl) <|
    sq rfl (q_call fn62 rfl (fun w hS => runder_ct (⟨qf, qs, ql, qd⟩ : Mk.Pf) _ _ rd (by first | with_reducible assumption | omega) w (Sl.mono (hS.le zin0) hb) (Sl.mono (hS.le zin0) hsd) (hS.ext _ _ hg0)) (fun _ _ _ h => h)) <|
    sq rfl (q_not rfl) <|
    sq_end) ?_
  clear hF hS; intro a w hF hS
  refine hK6 _ _ ?_
  clear hK6
  refine wp_if hF rfl (fun hc2 => ?_) (fun hc2 => ?_)
  ·have hu : Mk.undB ⟨qf, qs, ql, qd⟩ rd = false := by simpa using hc2
   refine wp_seq_k ?_; intro K7 hK7
   refine reg hF hS (sq rfl (q_assign rfl) <|
     sq rfl (q_assign rfl) <|
     sq_end) ?_
   clear hF hS; intro a w hF hS
   refine hK7 _ _ ?_
   clear hK7
   refine wp_ret ?_
   replace hS := hS.zone00
   exact fn_ret (rs := [.tmp 8, .tmp 9]) rfl hF hS (vs := [_, _]) ⟨rfl, rfl, trivial⟩ (zs' := [_]) (hs' := []) (List.singleton_sublist.2 (by simp)) zQ (se_of ⟨_, _, (sl_nil (z := fun _ => none)), rfl, rfl, rfl⟩ (by rw [Mk.chkR_n hlm hu]) (by rw [Mk.chkR_n hlm hu]))
  ·have hu : Mk.undB ⟨qf, qs, ql, qd⟩ rd = true := by simpa using hc2
   have hok := Mk.und_ok hu
   have hv0 : Mk.vE ql = 0 := hok.2.2.2.2.2
   have hva := Mk.vE_asc hv0
   have hrg : 0 ≤ qs ∧ qs ≤ 4096 ∧ 0 ≤ qf ∧ qf ≤ qs ∧ qf + ql.length ≤ qs := ⟨hok.1, hok.2.1, hok.2.2.1, hok.2.2.2.1, hok.2.2.2.2.1⟩
   have hfl := Mk.frm_le ql k
   have hfm := Mk.frm_le ql m
   have hmo := Mk.frm_mono (ls := ql) hlm
   refine wp_skip ?_
   refine hK5 _ _ ?_
   clear hK5
   refine wp_seq_k ?_; intro K8 hK8
   refine reg hF hS (sq rfl (q_fieldAddr ty54 rfl rfl (s' := 0) kQ) <|
     sq rfl (q_ld_blk1 ty24 0 rfl rfl rfl rfl) <|
     sq rfl (q_len_sl ty24 hb rfl) <|
     sq rfl (q_assign rfl) <|
     sq_end) ?_
   clear hF hS; intro a w hF hS
   refine hK8 _ _ ?_
   clear hK8
   refine wp_seq_k ?_; intro K9 hK9
   refine wp_seq_k ?_; intro K10 hK10
   refine reg hF hS (sq rfl (q_move rfl) <|
     sq rfl (q_eqi rfl rfl) <|
     sq_end) ?_
   clear hF hS; intro a w hF hS
   refine hK10 _ _ ?_
   clear hK10
   refine wp_ifd hF rfl (fun hc3 => ?_) (fun hc3 => ?_)
   ·have hnl : ql = [] := List.length_eq_zero_iff.1 (by omega)
    subst hnl
    have hbd : ¬ Mk.badR ⟨qf, qs, [], qd⟩ k m := by
     have := Mk.und_lv hu
     unfold Mk.badR
     rcases this with h | h
     ·dsimp only at h ⊢; rw [List.length_nil] at *; omega
     ·exact absurd rfl h
    refine wp_seq_k ?_; intro K11 hK11
    refine reg hF hS (sq rfl (q_assign rfl) <|
      sq rfl (q_assign rfl) <|
      sq_end) ?_
    clear hF hS; intro a w hF hS
    refine hK11 _ _ ?_
    clear hK11
    refine wp_ret ?_
    replace hS := hS.zone00
    exact fn_ret (rs := [.tmp 8, .tmp 9]) rfl hF hS (vs := [_, _]) ⟨rfl, rfl, trivial⟩ (zs' := [_]) (hs' := []) (List.singleton_sublist.2 (by simp)) zQ (se_of ⟨_, _, (sl_nil (z := fun _ => none)), rfl, rfl, rfl⟩ (by rw [Mk.chkR_t hlm hu hbd]; simp) (by rw [Mk.chkR_t hlm hu hbd]))
   ·have hl1 : 0 < ql.length := by omega
    have hz1 := Mk.frm_0 hva.1 (k := k) hl1
    have hzn := Mk.frm_n hva.1 (k := m) hl1
    have hin1 : ((ql.length : Int) - 1).toNat = ql.length - 1 := by omega
    refine wp_skip ?_
    refine hK9 _ _ ?_
    clear hK9
    refine wp_seq_k ?_; intro K12 hK12
    refine wp_seq_k ?_; intro K13 hK13
    refine regl ?_
    refine wpl_sq hF hS (sq rfl (q_fieldAddr ty54 rfl rfl (s' := 0) kQ) <|
      sq rfl (q_ld_blk1 ty3 0 rfl rfl rfl rfl) <|
      sq rfl (q_gti rfl rfl) <|
      sq rfl (q_move rfl) <|
      sq_end) ?_
    clear hF hS; intro a w hF hS
    refine wpl_and 3 26 7 hF hS rfl rfl rfl rfl rfl (fun hg => have hg := (by first | exact of_decide_eq_true hg | exact hg); sq_go 26 rfl rfl rfl (q_fieldAddr ty54 rfl rfl (s' := 0) kQ) <|
      sq_go 26 rfl rfl rfl (q_ld_blk1 ty24 0 rfl rfl rfl rfl) <|
      sq_go 26 rfl rfl rfl (q_idx_sl ty24 ty75 hb rfl rfl (by omega)) <|
      sq_go 26 rfl rfl rfl (q_fld_F ty75 hb rfl (by omega) rfl (s' := 0) kQ) <|
      sq_go 26 rfl rfl rfl (q_ld_FK ty9 hb zin0 rfl rfl (by omega)) <|
      sq_go 26 rfl rfl rfl (q_move rfl) <|
      sq_go 26 rfl rfl rfl (q_ges rfl rfl) <|
      sq_end) rfl rfl ?_
    clear hF hS; intro a w hF hS
    refine wpl_sq hF hS (sq rfl (q_move rfl) <|
      sq_end) ?_
    clear hF hS; intro a w hF hS
    refine wpl_orG (q := (decide (qf + (ql.length : Int) < qs) && Op.bytesLess (ql.getD ((ql.length : Int) - 1).toNat kv0).1 m)) 35 18 hF hS rfl (by rfl) rfl (fun _ => sq_skip 35 rfl rfl rfl rfl <|
      sq_skip 35 rfl rfl rfl rfl <|
      sq_skip 35 rfl rfl rfl rfl <|
      sq_skip 35 rfl rfl rfl rfl <|
      sq_skip 35 rfl rfl rfl rfl <|
      sq_skip 35 rfl rfl rfl rfl <|
      sq_skip 35 rfl rfl rfl rfl <|
      sq_skip 35 rfl rfl rfl rfl <|
      sq_skipu 43 rfl rfl rfl <|
      sq_skipu 43 rfl rfl rfl <|
      sq_skipu 43 rfl rfl rfl <|
      sq_skipu 43 rfl rfl rfl <|
      sq_skipu 43 rfl rfl rfl <|
      sq_skipu 43 rfl rfl rfl <|
      sq_skipu 43 rfl rfl rfl <|
      sq_skipu 43 rfl rfl rfl <|
      sq_skipu 43 rfl rfl rfl <|
      sq_skip 35 rfl rfl rfl rfl <|
      sq_end) rfl (fun hg a w hF hS KG => ?_) ?_
    ·have hg := hg
     refine wpl_sq hF hS (sq_go 35 rfl rfl rfl (q_fieldAddr ty54 rfl rfl (s' := 0) kQ) <|
       sq_go 35 rfl rfl rfl (q_ld_blk1 ty3 0 rfl rfl rfl rfl) <|
       sq_go 35 rfl rfl rfl (q_move rfl) <|
       sq_go 35 rfl rfl rfl (q_addi rfl rfl (by omega)) <|
       sq_go 35 rfl rfl rfl (q_fieldAddr ty54 rfl rfl (s' := 0) kQ) <|
       sq_go 35 rfl rfl rfl (q_ld_blk1 ty3 0 rfl rfl rfl rfl) <|
       sq_go 35 rfl rfl rfl (q_lti rfl rfl) <|
       sq_go 35 rfl rfl rfl (q_move rfl) <|
       sq_end) ?_
     clear hF hS; intro a w hF hS
     refine wpl_andP 20 43 9 12 35 hF hS rfl rfl rfl rfl rfl rfl rfl (fun hg2 => have hg2 := (by first | exact of_decide_eq_true hg2 | exact hg2); sq_go 43 rfl rfl rfl (q_fieldAddr ty54 rfl rfl (s' := 0) kQ) <|
       sq_go 43 rfl rfl rfl (q_ld_blk1 ty24 0 rfl rfl rfl rfl) <|
       sq_go 43 rfl rfl rfl (q_move rfl) <|
       sq_go 43 rfl rfl rfl (q_subi rfl rfl (by omega)) <|
       sq_go 43 rfl rfl rfl (q_idx_sl ty24 ty75 hb rfl rfl (by omega)) <|
       sq_go 43 rfl rfl rfl (q_fld_F ty75 hb rfl (by omega) rfl (s' := 0) kQ) <|
       sq_go 43 rfl rfl rfl (q_ld_FK ty9 hb zin0 rfl rfl (by omega)) <|
       sq_go 43 rfl rfl rfl (q_move rfl) <|
       sq_go 43 rfl rfl rfl (q_lts rfl rfl) <|
       sq_end) rfl rfl ?_
     clear hF hS; intro a w hF hS
     refine wpl_sq hF hS (sq rfl (q_pick_f rfl rfl) <|
       sq_end) ?_
     clear hF hS; intro a w hF hS
     exact KG _ _ (hF.under 9 rfl rfl) hS
    clear hF hS; intro a w hF hS
    refine wpList_nil ?_
    refine hK13 _ _ ?_
    clear hK13
    refine wp_if hF rfl (fun hc4 => ?_) (fun hc4 => ?_)
    ·(try simp only [Bool.or_eq_true, Bool.and_eq_true, Bool.or_eq_false_iff, Bool.and_eq_false_iff, decide_eq_true_eq, decide_eq_false_iff_not, Bool.not_eq_true', Bool.not_eq_false'] at hc4)
     have hbd : Mk.badR ⟨qf, qs, ql, qd⟩ k m := by
      unfold Mk.badR
      dsimp only
      rw [hin1] at hc4
      rcases hc4 with h | h
      ·exact .inl ⟨h.1, hz1.2 h.2⟩
      ·exact .inr ⟨by omega, hzn.2 h.2⟩
     refine wp_seq_k ?_; intro K14 hK14
     refine reg hF hS (sq rfl (q_assign rfl) <|
       sq rfl (q_assign rfl) <|
       sq_end) ?_
     clear hF hS; intro a w hF hS
     refine hK14 _ _ ?_
     clear hK14
     refine wp_ret ?_
     replace hS := hS.zone00
     exact fn_ret (rs := [.tmp 8, .tmp 9]) rfl hF hS (vs := [_, _]) ⟨rfl, rfl, trivial⟩ (zs' := [_]) (hs' := []) (List.singleton_sublist.2 (by simp)) zQ (se_of ⟨_, _, (sl_nil (z := fun _ => none)), rfl, rfl, rfl⟩ (by rw [Mk.chkR_b hlm hu hbd]) (by rw [Mk.chkR_b hlm hu hbd]))
    ·(try simp only [Bool.or_eq_true, Bool.and_eq_true, Bool.or_eq_false_iff, Bool.and_eq_false_iff, decide_eq_true_eq, decide_eq_false_iff_not, Bool.not_eq_true', Bool.not_eq_false'] at hc4)
     have hbd : ¬ Mk.badR ⟨qf, qs, ql, qd⟩ k m := fun h9 => by
      unfold Mk.badR at h9
      dsimp only at h9
      rw [hin1] at hc4
      rcases h9 with h9 | h9
      ·have h8 : Op.bytesLess (ql.getD 0 kv0).1 k = false := hz1.1 h9.2
       rcases hc4.1 with h | h
       ·omega
       ·rw [show (0 : Int).toNat = 0 from rfl] at h; rw [h8] at h; simp at h
      ·have h8 : Op.bytesLess (ql.getD (ql.length - 1) kv0).1 m = true := hzn.1 h9.2
       rcases hc4.2 with h | h
       ·omega
       ·rw [h8] at h; simp at h
     refine wp_skip ?_
     refine hK12 _ _ ?_
     clear hK12
     refine wp_seq_k ?_; intro K15 hK15
     refine regl ?_
     refine wpl_sq hF hS (sq rfl (q_fieldAddr ty54 rfl rfl (s' := 0) kQ) <|
       sq rfl (q_ld_blk1 ty24 0 rfl rfl rfl rfl) <|
       sq rfl (q_move rfl) <|
       sq rfl (q_move rfl) <|
       sq_end) ?_
     clear hF hS; intro a w hF hS
     refine wpl_ef hF hS rfl (ef_call fn36 rfl (fun w hS => inside_ct _ _ _ _ (by omega) w (Sl.mono (hS.le zin0) hb))) ?_
     clear hF hS; rintro v3 _ _ a w ⟨_, _, rfl, rfl, ⟨z4, hz5, rfl, rfl⟩⟩ hF hS
     replace hS : St _ [_] [_, _] _ := hS
     refine wpl_sq hF hS (sq rfl (q_assign rfl) <|
       sq rfl (q_assign rfl) <|
       sq_end) ?_
     clear hF hS; intro a w hF hS
     refine wpList_nil ?_
     refine hK15 _ _ ?_
     clear hK15
     refine wp_ret ?_
     exact fn_ret (rs := [.tmp 8, .tmp 9]) rfl hF hS (vs := [_, _]) ⟨rfl, rfl, trivial⟩ (zs' := [_]) (hs' := []) (List.singleton_sublist.2 (by simp)) zQ (se_of ⟨_, _, hz5, rfl, rfl, rfl⟩ (by rw [Mk.chkR_t hlm hu hbd, Mk.inside_cut hva.1 hlm]) (by rw [Mk.chkR_t hlm hu hbd]))
end Go.Proofs.YtdojfnigffeblaaDoor
