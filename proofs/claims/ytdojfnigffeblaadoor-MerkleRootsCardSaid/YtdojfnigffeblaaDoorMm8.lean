/- A text of a proof over this seat: walks over the program's functions and the plain laws that they need. -/
import Derived.Test.YtdojfnigffeblaaDoorMm7
import Derived.Test.YtdojfnigffeblaaDoorMkA
import Derived.Test.YtdojfnigffeblaaDoorFwD
import Derived.Test.YtdojfnigffeblaaDoorFwB
set_option linter.all false
namespace Go.Proofs.YtdojfnigffeblaaDoor
open Go.Fw
theorem fn61 : FnOk Tryd.prog 61 := ⟨_, Tryd.func61, rfl, by kernel_rfl⟩
attribute [local irreducible] Sha.sum Sha.mac Sha.ofD Wi.int Wi.ints Wi.bytes Sha.inp Mk.half Lib.compareBytes Mk.frm Mk.rootD

set_option maxRecDepth 4000 in
set_option maxHeartbeats 2000000 in
theorem check_ct (q : Mk.Pf) (lv sv : Value) (rd k : List UInt8) (hr : rd.length = 16) (w : World) (hb : Sl encF (ph w) lv q.lv) (hsd : Sl (encA 16) (ph w) sv q.sd) {fz1 : Nat × Nat} {bt1 : TypeId} (hg1 : w.heap[2]? = some (.cells (Sha.kc.map vw).toArray bt1 fz1)) : Ct Tryd.prog 29 [.agg ((rd).map vb).toArray, vs k, .agg [vi q.fst, vi q.sz, lv, sv].toArray] w (fun r _ _ => r = .tuple [vs (Mk.chkE rd k q).1, .bool (Mk.chkE rd k q).2.1, vi (Mk.chkE rd k q).2.2].toArray) := by
 refine fn_enter Tryd.func29 rfl Tryd.ntmps29 (Nat.le_of_ble_eq_true rfl) fun a hF hS => ?_
 obtain ⟨qf, qs, ql, qd⟩ := q
 dsimp only at hF hb hsd
 have hbl := hb.1
 have hdl : qd.length ≤ 140737488355328 := hsd.1
 have hs16 : ∀ d ∈ qd, d.length = 16 := sl_A hsd
 refine wp_seq_k ?_; intro K1 hK1
 refine regl ?_
 refine wpl_ef hF hS rfl (ef_boxA rfl) ?_
 clear hF hS; rintro _ _ _ a w ⟨b1, rfl, rfl, rfl⟩ hF hS
 refine wpl_ef hF hS rfl (ef_boxA rfl) ?_
 clear hF hS; rintro _ _ _ a w ⟨b2, rfl, rfl, rfl⟩ hF hS
 refine wpl_sq hF hS (sq rfl (q_assign rfl) <|
   sq rfl (q_assign rfl) <|
   sq rfl (q_assign rfl) <|
   sq_end) ?_
 clear hF hS; intro a w hF hS
 refine wpList_nil ?_
 refine hK1 _ _ ?_
 clear hK1
 refine wp_seq_k ?_; intro K2 hK2
 refine wp_seq_k ?_; intro K3 hK3
 refine reg hF hS (sq rfl (q_ld_blkW ty50 0 rfl rfl bQ rfl) <|
   sq rfl (q_ld_blkW ty29 1 rfl rfl bQ rfl) <|
   sq rfl (q_call fn61 rfl (fun w hS => under_ct (⟨qf, qs, ql, qd⟩ : Mk.Pf) _ _ rd (by first | with_reducible assumption | omega) w (Sl.mono (hS.le zin0) hb) (Sl.mono (hS.le zin0) hsd) (hS.ext _ _ hg1)) (fun _ _ _ h => h)) <|
   sq rfl (q_not rfl) <|
   sq_end) ?_
 clear hF hS; intro a w hF hS
 refine hK3 _ _ ?_
 clear hK3
 refine wp_if hF rfl (fun hc1 => ?_) (fun hc1 => ?_)
 ·have hu : Mk.undB ⟨qf, qs, ql, qd⟩ rd = false := by simpa using hc1
  refine wp_seq_k ?_; intro K4 hK4
  refine reg hF hS (sq rfl (q_assign rfl) <|
    sq rfl (q_assign rfl) <|
    sq rfl (q_assign rfl) <|
    sq_end) ?_
  clear hF hS; intro a w hF hS
  refine hK4 _ _ ?_
  clear hK4
  refine wp_ret ?_
  exact fn_ret (rs := [.tmp 6, .tmp 7, .tmp 8]) rfl hF hS (vs := [_, _, _]) ⟨rfl, rfl, rfl, trivial⟩ zQ zQ (by rw [Mk.chk_n hu])
 ·have hu : Mk.undB ⟨qf, qs, ql, qd⟩ rd = true := by simpa using hc1
  have hok := Mk.und_ok hu
  have hv0 : Mk.vE ql = 0 := hok.2.2.2.2.2
  have hva := Mk.vE_asc hv0
  have hrg : 0 ≤ qs ∧ qs ≤ 4096 ∧ 0 ≤ qf ∧ qf ≤ qs ∧ qf + ql.length ≤ qs := ⟨hok.1, hok.2.1, hok.2.2.1, hok.2.2.2.1, hok.2.2.2.2.1⟩
  have hfl := Mk.frm_le ql k
  refine wp_skip ?_
  refine hK2 _ _ ?_
  clear hK2
  refine wp_seq_k ?_; intro K5 hK5
  refine reg hF hS (sq rfl (q_fieldAddr ty50 rfl rfl (s' := 0) kQ) <|
    sq rfl (q_ld_blk1 ty33 0 rfl rfl rfl rfl) <|
    sq rfl (q_move rfl) <|
    sq rfl (q_call fn56 rfl (fun w hS => from_ct _ _ _ hva.1 (by omega) w (Sl.mono (hS.le zin0) hb)) (fun _ _ _ h => h)) <|
    sq rfl (q_assign rfl) <|
    sq_end) ?_
  clear hF hS; intro a w hF hS
  refine hK5 _ _ ?_
  clear hK5
  refine wp_seq_k ?_; intro K6 hK6
  refine wp_block ?_
  refine wp_seq_k ?_; intro K7 hK7
  refine regl ?_
  refine wpl_sq hF hS (sq rfl (q_move rfl) <|
    sq rfl (q_fieldAddr ty50 rfl rfl (s' := 0) kQ) <|
    sq rfl (q_ld_blk1 ty33 0 rfl rfl rfl rfl) <|
    sq rfl (q_len_sl ty33 hb rfl) <|
    sq rfl (q_lti rfl rfl) <|
    sq rfl (q_move rfl) <|
    sq_end) ?_
  clear hF hS; intro a w hF hS
  refine wpl_and 5 24 8 hF hS rfl rfl rfl rfl rfl (fun hg => have hg := (by first | exact of_decide_eq_true hg | exact hg); sq_go 24 rfl rfl rfl (q_fieldAddr ty50 rfl rfl (s' := 0) kQ) <|
    sq_go 24 rfl rfl rfl (q_ld_blk1 ty33 0 rfl rfl rfl rfl) <|
    sq_go 24 rfl rfl rfl (q_move rfl) <|
    sq_go 24 rfl rfl rfl (q_idx_sl ty33 ty41 hb rfl rfl (by omega)) <|
    sq_go 24 rfl rfl rfl (q_fld_F ty41 hb rfl (by omega) rfl (s' := 0) kQ) <|
    sq_go 24 rfl rfl rfl (q_ld_FK ty9 hb zin0 rfl rfl (by omega)) <|
    sq_go 24 rfl rfl rfl (q_move rfl) <|
    sq_go 24 rfl rfl rfl (q_eqs rfl rfl) <|
    sq_end) rfl rfl ?_
  clear hF hS; intro a w hF hS
  refine wpl_sq hF hS (sq rfl (q_assign rfl) <|
    sq_end) ?_
  clear hF hS; intro a w hF hS
  refine wpList_nil ?_
  refine hK7 _ _ ?_
  clear hK7
  refine wp_if hF rfl (fun hc2 => ?_) (fun hc2 => ?_)
  ·(try simp only [Bool.or_eq_true, Bool.and_eq_true, Bool.or_eq_false_iff, Bool.and_eq_false_iff, decide_eq_true_eq, decide_eq_false_iff_not, Bool.not_eq_true', Bool.not_eq_false'] at hc2)
   have hfd : Mk.fnd ql k = true := by
    simp only [Int.toNat_natCast] at hc2
    exact Mk.fnd_t (by omega) hc2.2
   have hfd2 := (Mk.fnd_iff.1 hfd).1
   refine wp_seq_k ?_; intro K8 hK8
   refine reg hF hS (sq rfl (q_fieldAddr ty50 rfl rfl (s' := 0) kQ) <|
     sq rfl (q_ld_blk1 ty33 0 rfl rfl rfl rfl) <|
     sq rfl (q_move rfl) <|
     sq rfl (q_idx_sl ty33 ty41 hb rfl rfl (by omega)) <|
     sq rfl (q_fld_F ty41 hb rfl (by omega) rfl (s' := 0) kQ) <|
     sq rfl (q_ld_FV ty9 hb zin0 rfl rfl (by omega)) <|
     sq rfl (q_assign rfl) <|
     sq rfl (q_assign rfl) <|
     sq rfl (q_assign rfl) <|
     sq_end) ?_
   clear hF hS; intro a w hF hS
   refine hK8 _ _ ?_
   clear hK8
   refine wp_ret ?_
   exact fn_ret (rs := [.tmp 6, .tmp 7, .tmp 8]) rfl hF hS (vs := [_, _, _]) ⟨rfl, rfl, rfl, trivial⟩ zQ zQ (by rw [Mk.chk_t hu hfd, Int.toNat_natCast])
  ·(try simp only [Bool.or_eq_true, Bool.and_eq_true, Bool.or_eq_false_iff, Bool.and_eq_false_iff, decide_eq_true_eq, decide_eq_false_iff_not, Bool.not_eq_true', Bool.not_eq_false'] at hc2)
   have hfd : Mk.fnd ql k = false := by
    simp only [Int.toNat_natCast] at hc2
    exact Mk.fnd_f (fun h9 => by rcases hc2 with h | h; exact h (by omega); exact h h9.2)
   refine wp_seq_k ?_; intro K9 hK9
   refine regl ?_
   refine wpl_sq hF hS (sq rfl (q_move rfl) <|
     sq rfl (q_gti rfl rfl) <|
     sq rfl (q_move rfl) <|
     sq_end) ?_
   clear hF hS; intro a w hF hS
   refine wpl_or 2 43 3 hF hS rfl rfl rfl rfl rfl (fun hg => have hg := (by first | exact of_decide_eq_false hg | exact hg); sq_go 43 rfl rfl rfl (q_fieldAddr ty50 rfl rfl (s' := 0) kQ) <|
     sq_go 43 rfl rfl rfl (q_ld_blk1 ty3 0 rfl rfl rfl rfl) <|
     sq_go 43 rfl rfl rfl (q_eqi rfl rfl) <|
     sq_end) rfl rfl ?_
   clear hF hS; intro a w hF hS
   refine wpl_sq hF hS (sq rfl (q_move rfl) <|
     sq_end) ?_
   clear hF hS; intro a w hF hS
   refine wpl_andG (q := (decide (((Mk.frm ql k : Nat) : Int) < (ql.length : Int)) || decide (qf + (ql.length : Int) = qs))) 48 16 hF hS rfl (by rfl) rfl (fun _ => sq_skip 48 rfl rfl rfl rfl <|
     sq_skip 48 rfl rfl rfl rfl <|
     sq_skip 48 rfl rfl rfl rfl <|
     sq_skip 48 rfl rfl rfl rfl <|
     sq_skip 48 rfl rfl rfl rfl <|
     sq_skip 48 rfl rfl rfl rfl <|
     sq_skipu 54 rfl rfl rfl <|
     sq_skipu 54 rfl rfl rfl <|
     sq_skipu 54 rfl rfl rfl <|
     sq_skipu 54 rfl rfl rfl <|
     sq_skipu 54 rfl rfl rfl <|
     sq_skipu 54 rfl rfl rfl <|
     sq_skipu 54 rfl rfl rfl <|
     sq_skipu 54 rfl rfl rfl <|
     sq_skipu 54 rfl rfl rfl <|
     sq_skip 48 rfl rfl rfl rfl <|
     sq_end) rfl (fun hg a w hF hS KG => ?_) ?_
   ·have hg := hg
    refine wpl_sq hF hS (sq_go 48 rfl rfl rfl (q_move rfl) <|
      sq_go 48 rfl rfl rfl (q_fieldAddr ty50 rfl rfl (s' := 0) kQ) <|
      sq_go 48 rfl rfl rfl (q_ld_blk1 ty33 0 rfl rfl rfl rfl) <|
      sq_go 48 rfl rfl rfl (q_len_sl ty33 hb rfl) <|
      sq_go 48 rfl rfl rfl (q_lti rfl rfl) <|
      sq_go 48 rfl rfl rfl (q_move rfl) <|
      sq_end) ?_
    clear hF hS; intro a w hF hS
    refine wpl_orP 13 54 9 7 48 hF hS rfl rfl rfl rfl rfl rfl rfl (fun hg2 => have hg2 := (by first | exact of_decide_eq_false hg2 | exact hg2); sq_go 54 rfl rfl rfl (q_fieldAddr ty50 rfl rfl (s' := 0) kQ) <|
      sq_go 54 rfl rfl rfl (q_ld_blk1 ty3 0 rfl rfl rfl rfl) <|
      sq_go 54 rfl rfl rfl (q_fieldAddr ty50 rfl rfl (s' := 0) kQ) <|
      sq_go 54 rfl rfl rfl (q_ld_blk1 ty33 0 rfl rfl rfl rfl) <|
      sq_go 54 rfl rfl rfl (q_len_sl ty33 hb rfl) <|
      sq_go 54 rfl rfl rfl (q_addi rfl rfl (by omega)) <|
      sq_go 54 rfl rfl rfl (q_fieldAddr ty50 rfl rfl (s' := 0) kQ) <|
      sq_go 54 rfl rfl rfl (q_ld_blk1 ty3 0 rfl rfl rfl rfl) <|
      sq_go 54 rfl rfl rfl (q_eqi rfl rfl) <|
      sq_end) rfl rfl ?_
    clear hF hS; intro a w hF hS
    refine wpl_sq hF hS (sq rfl (q_pick_t rfl rfl) <|
      sq_end) ?_
    clear hF hS; intro a w hF hS
    exact KG _ _ (hF.under 7 rfl rfl) hS
   clear hF hS; intro a w hF hS
   refine wpl_sq hF hS (sq rfl (q_assign rfl) <|
     sq_end) ?_
   clear hF hS; intro a w hF hS
   refine wpList_nil ?_
   refine hK9 _ _ ?_
   clear hK9
   refine wp_if hF rfl (fun hc3 => ?_) (fun hc3 => ?_)
   ·(try simp only [Bool.or_eq_true, Bool.and_eq_true, Bool.or_eq_false_iff, Bool.and_eq_false_iff, decide_eq_true_eq, decide_eq_false_iff_not, Bool.not_eq_true', Bool.not_eq_false'] at hc3)
    refine wp_seq_k ?_; intro K10 hK10
    refine reg hF hS (sq rfl (q_assign rfl) <|
      sq rfl (q_assign rfl) <|
      sq rfl (q_assign rfl) <|
      sq_end) ?_
    clear hF hS; intro a w hF hS
    refine hK10 _ _ ?_
    clear hK10
    refine wp_ret ?_
    exact fn_ret (rs := [.tmp 6, .tmp 7, .tmp 8]) rfl hF hS (vs := [_, _, _]) ⟨rfl, rfl, rfl, trivial⟩ zQ zQ (by rw [Mk.chk_f hu hfd (by dsimp only; omega)])
   ·(try simp only [Bool.or_eq_true, Bool.and_eq_true, Bool.or_eq_false_iff, Bool.and_eq_false_iff, decide_eq_true_eq, decide_eq_false_iff_not, Bool.not_eq_true', Bool.not_eq_false'] at hc3)
    refine wp_skip ?_
    refine hK6 _ _ ?_
    clear hK6
    refine wp_seq_k ?_; intro K11 hK11
    refine reg hF hS (sq rfl (q_assign rfl) <|
      sq rfl (q_assign rfl) <|
      sq rfl (q_assign rfl) <|
      sq_end) ?_
    clear hF hS; intro a w hF hS
    refine hK11 _ _ ?_
    clear hK11
    refine wp_ret ?_
    exact fn_ret (rs := [.tmp 6, .tmp 7, .tmp 8]) rfl hF hS (vs := [_, _, _]) ⟨rfl, rfl, rfl, trivial⟩ zQ zQ (by rw [Mk.chk_x hu hfd (by dsimp only; omega)])

set_option maxRecDepth 4000 in
set_option maxHeartbeats 2000000 in
theorem chkr_ct (q : Mk.Pf) (lv sv : Value) (rd k m : List UInt8) (hr : rd.length = 16) (w : World) (hb : Sl encF (ph w) lv q.lv) (hsd : Sl (encA 16) (ph w) sv q.sd) {fz1 : Nat × Nat} {bt1 : TypeId} (hg1 : w.heap[2]? = some (.cells (Sha.kc.map vw).toArray bt1 fz1)) : Ct Tryd.prog 32 [.agg ((rd).map vb).toArray, vs k, vs m, .agg [vi q.fst, vi q.sz, lv, sv].toArray] w (SlE encF (Mk.chkR rd k m q).1 (Mk.chkR rd k m q).2) := by
 refine fn_enter Tryd.func32 rfl Tryd.ntmps32 (Nat.le_of_ble_eq_true rfl) fun a hF hS => ?_
 obtain ⟨qf, qs, ql, qd⟩ := q
 dsimp only at hF hb hsd
 have hbl := hb.1
 have hdl : qd.length ≤ 140737488355328 := hsd.1
 have hs16 : ∀ d ∈ qd, d.length = 16 := sl_A hsd
 refine wp_seq_k ?_; intro K1 hK1
 refine regl ?_
 refine wpl_ef hF hS rfl (ef_boxA rfl) ?_
 clear hF hS; rintro _ _ _ a w ⟨b1, rfl, rfl, rfl⟩ hF hS
 refine wpl_ef hF hS rfl (ef_boxA rfl) ?_
 clear hF hS; rintro _ _ _ a w ⟨b2, rfl, rfl, rfl⟩ hF hS
 refine wpl_sq hF hS (sq rfl (q_assign rfl) <|
   sq rfl (q_assign rfl) <|
   sq_end) ?_
 clear hF hS; intro a w hF hS
 refine wpList_nil ?_
 refine hK1 _ _ ?_
 clear hK1
 refine wp_seq_k ?_; intro K2 hK2
 refine wp_seq_k ?_; intro K3 hK3
 refine reg hF hS (sq rfl (q_move rfl) <|
   sq rfl (q_move rfl) <|
   sq rfl (q_lts rfl rfl) <|
   sq_end) ?_
 clear hF hS; intro a w hF hS
 refine hK3 _ _ ?_
 clear hK3
 refine wp_if hF rfl (fun hc1 => ?_) (fun hc1 => ?_)
 ·have hlm : Mk.lt m k = true := hc1
  refine wp_seq_k ?_; intro K4 hK4
  refine reg hF hS (sq rfl (q_assign rfl) <|
    sq rfl (q_assign rfl) <|
    sq_end) ?_
  clear hF hS; intro a w hF hS
  refine hK4 _ _ ?_
  clear hK4
  refine wp_ret ?_
  replace hS := hS.zone00
  exact fn_ret (rs := [.tmp 8, .tmp 9]) rfl hF hS (vs := [_, _]) ⟨rfl, rfl, trivial⟩ (zs' := [_]) (hs' := []) (List.singleton_sublist.2 (by simp)) zQ (se_of ⟨_, _, (sl_nil (z := fun _ => none)), rfl, rfl, rfl⟩ (by rw [Mk.chkR_5 hlm]) (by rw [Mk.chkR_5 hlm]))
 ·have hlm : Mk.lt m k = false := hc1
  refine wp_skip ?_
  refine hK2 _ _ ?_
  clear hK2
  refine wp_seq_k ?_; intro K5 hK5
  refine wp_seq_k ?_; intro K6 hK6
  refine reg hF hS (sq rfl (q_ld_blkW ty50 0 rfl rfl bQ rfl) <|
    sq rfl (q_ld_blkW ty29 1 rfl rfl bQ rfl) <|
    sq rfl (q_call fn61 rfl (fun w hS => under_ct (⟨qf, qs, ql, qd⟩ : Mk.Pf) _ _ rd (by first | with_reducible assumption | omega) w (Sl.mono (hS.le zin0) hb) (Sl.mono (hS.le zin0) hsd) (hS.ext _ _ hg1)) (fun _ _ _ h => h)) <|
    sq rfl (q_not rfl) <|
    sq_end) ?_
  clear hF hS; intro a w hF hS
  refine hK6 _ _ ?_
  clear hK6
  refine wp_if hF rfl (fun hc2 => ?_) (fun hc2 => ?_)
  ·have hu : Mk.undB ⟨qf, qs, ql, qd⟩ rd = false := by simpa using hc2
   refine wp_seq_k ?_; intro K7 hK7
   refine reg hF hS (sq rfl (q_assign rfl) <|
     sq rfl (q_assign rfl) <|
     sq_end) ?_
   clear hF hS; intro a w hF hS
   refine hK7 _ _ ?_
   clear hK7
   refine wp_ret ?_
   replace hS := hS.zone00
   exact fn_ret (rs := [.tmp 8, .tmp 9]) rfl hF hS (vs := [_, _]) ⟨rfl, rfl, trivial⟩ (zs' := [_]) (hs' := []) (List.singleton_sublist.2 (by simp)) zQ (se_of ⟨_, _, (sl_nil (z := fun _ => none)), rfl, rfl, rfl⟩ (by rw [Mk.chkR_n hlm hu]) (by rw [Mk.chkR_n hlm hu]))
  ·have hu : Mk.undB ⟨qf, qs, ql, qd⟩ rd = true := by simpa using hc2
   have hok := Mk.und_ok hu
   have hv0 : Mk.vE ql = 0 := hok.2.2.2.2.2
   have hva := Mk.vE_asc hv0
   have hrg : 0 ≤ qs ∧ qs ≤ 4096 ∧ 0 ≤ qf ∧ qf ≤ qs ∧ qf + ql.length ≤ qs := ⟨hok.1, hok.2.1, hok.2.2.1, hok.2.2.2.1, hok.2.2.2.2.1⟩
   have hfl := Mk.frm_le ql k
   have hfm := Mk.frm_le ql m
   have hmo := Mk.frm_mono (ls := ql) hlm
   refine wp_skip ?_
   refine hK5 _ _ ?_
   clear hK5
   refine wp_seq_k ?_; intro K8 hK8
   refine regd mixed kQ hF hS (sq rfl (q_fieldAddr ty50 rfl rfl (s' := 0) kQ) <|
     sq rfl (q_ld_blk1 ty33 0 rfl rfl rfl rfl) <|
     sq rfl (q_move rfl) <|
     sq rfl (q_call fn56 rfl (fun w hS => from_ct _ _ _ hva.1 (by omega) w (Sl.mono (hS.le zin0) hb)) (fun _ _ _ h => h)) <|
     sq rfl (q_fieldAddr ty50 rfl rfl (s' := 0) kQ) <|
     sq rfl (q_ld_blk1 ty33 0 rfl rfl rfl rfl) <|
     sq rfl (q_move rfl) <|
     sq rfl (q_call fn56 rfl (fun w hS => from_ct _ _ _ hva.1 (by omega) w (Sl.mono (hS.le zin0) hb)) (fun _ _ _ h => h)) <|
     sq rfl (q_fieldAddr ty50 rfl rfl (s' := 0) kQ) <|
     sq rfl (q_ld_blk1 ty33 0 rfl rfl rfl rfl) <|
     sq rfl (q_len_sl ty33 hb rfl) <|
     sq rfl (q_assign rfl) <|
     sq rfl (q_assign rfl) <|
     sq rfl (q_assign rfl) <|
     sq_end) ?_
   clear hF hS; intro a w hF hS
   refine hK8 _ _ ?_
   clear hK8
   refine wp_seq_k ?_; intro K9 hK9
   refine wp_seq_k ?_; intro K10 hK10
   refine regl ?_
   refine wpl_sq hF hS (sq rfl (q_fieldAddr ty50 rfl rfl (s' := 0) kQ) <|
     sq rfl (q_ld_blk1 ty3 0 rfl rfl rfl rfl) <|
     sq rfl (q_gti rfl rfl) <|
     sq rfl (q_move rfl) <|
     sq_end) ?_
   clear hF hS; intro a w hF hS
   refine wpl_and 3 34 2 hF hS rfl rfl rfl rfl rfl (fun hg => have hg := (by first | exact of_decide_eq_true hg | exact hg); sq_go 34 rfl rfl rfl (q_move rfl) <|
     sq_go 34 rfl rfl rfl (q_eqi rfl rfl) <|
     sq_end) rfl rfl ?_
   clear hF hS; intro a w hF hS
   refine wpl_sq hF hS (sq rfl (q_move rfl) <|
     sq_end) ?_
   clear hF hS; intro a w hF hS
   refine wpl_orG (q := (decide (qf + (ql.length : Int) < qs) && decide (((Mk.frm ql m : Nat) : Int) = (ql.length : Int)))) 38 12 hF hS rfl (by rfl) rfl (fun _ => sq_skip 38 rfl rfl rfl rfl <|
     sq_skip 38 rfl rfl rfl rfl <|
     sq_skip 38 rfl rfl rfl rfl <|
     sq_skip 38 rfl rfl rfl rfl <|
     sq_skip 38 rfl rfl rfl rfl <|
     sq_skip 38 rfl rfl rfl rfl <|
     sq_skip 38 rfl rfl rfl rfl <|
     sq_skip 38 rfl rfl rfl rfl <|
     sq_skipu 46 rfl rfl rfl <|
     sq_skipu 46 rfl rfl rfl <|
     sq_skipu 46 rfl rfl rfl <|
     sq_skip 38 rfl rfl rfl rfl <|
     sq_end) rfl (fun hg a w hF hS KG => ?_) ?_
   ·have hg := hg
    refine wpl_sq hF hS (sq_go 38 rfl rfl rfl (q_fieldAddr ty50 rfl rfl (s' := 0) kQ) <|
      sq_go 38 rfl rfl rfl (q_ld_blk1 ty3 0 rfl rfl rfl rfl) <|
      sq_go 38 rfl rfl rfl (q_move rfl) <|
      sq_go 38 rfl rfl rfl (q_addi rfl rfl (by omega)) <|
      sq_go 38 rfl rfl rfl (q_fieldAddr ty50 rfl rfl (s' := 0) kQ) <|
      sq_go 38 rfl rfl rfl (q_ld_blk1 ty3 0 rfl rfl rfl rfl) <|
      sq_go 38 rfl rfl rfl (q_lti rfl rfl) <|
      sq_go 38 rfl rfl rfl (q_move rfl) <|
      sq_end) ?_
    clear hF hS; intro a w hF hS
    refine wpl_andP 15 46 3 7 38 hF hS rfl rfl rfl rfl rfl rfl rfl (fun hg2 => have hg2 := (by first | exact of_decide_eq_true hg2 | exact hg2); sq_go 46 rfl rfl rfl (q_move rfl) <|
      sq_go 46 rfl rfl rfl (q_move rfl) <|
      sq_go 46 rfl rfl rfl (q_eqi rfl rfl) <|
      sq_end) rfl rfl ?_
    clear hF hS; intro a w hF hS
    refine wpl_sq hF hS (sq rfl (q_pick_f rfl rfl) <|
      sq_end) ?_
    clear hF hS; intro a w hF hS
    exact KG _ _ (hF.under 9 rfl rfl) hS
   clear hF hS; intro a w hF hS
   refine wpList_nil ?_
   refine hK10 _ _ ?_
   clear hK10
   refine wp_if hF rfl (fun hc3 => ?_) (fun hc3 => ?_)
   ·(try simp only [Bool.or_eq_true, Bool.and_eq_true, Bool.or_eq_false_iff, Bool.and_eq_false_iff, decide_eq_true_eq, decide_eq_false_iff_not, Bool.not_eq_true', Bool.not_eq_false'] at hc3)
    have hbd : Mk.badR ⟨qf, qs, ql, qd⟩ k m := by unfold Mk.badR; dsimp only; omega
    refine wp_seq_k ?_; intro K11 hK11
    refine reg hF hS (sq rfl (q_assign rfl) <|
      sq rfl (q_assign rfl) <|
      sq_end) ?_
    clear hF hS; intro a w hF hS
    refine hK11 _ _ ?_
    clear hK11
    refine wp_ret ?_
    replace hS := hS.zone00
    exact fn_ret (rs := [.tmp 8, .tmp 9]) rfl hF hS (vs := [_, _]) ⟨rfl, rfl, trivial⟩ (zs' := [_]) (hs' := []) (List.singleton_sublist.2 (by simp)) zQ (se_of ⟨_, _, (sl_nil (z := fun _ => none)), rfl, rfl, rfl⟩ (by rw [Mk.chkR_b hlm hu hbd]) (by rw [Mk.chkR_b hlm hu hbd]))
   ·(try simp only [Bool.or_eq_true, Bool.and_eq_true, Bool.or_eq_false_iff, Bool.and_eq_false_iff, decide_eq_true_eq, decide_eq_false_iff_not, Bool.not_eq_true', Bool.not_eq_false'] at hc3)
    have hbd : ¬ Mk.badR ⟨qf, qs, ql, qd⟩ k m := by unfold Mk.badR; dsimp only; omega
    refine wp_skip ?_
    refine hK9 _ _ ?_
    clear hK9
    refine wp_seq_k ?_; intro K12 hK12
    refine regl ?_
    refine wpl_sq hF hS (sq rfl (q_fieldAddr ty50 rfl rfl (s' := 0) kQ) <|
      sq rfl (q_ld_blk1 ty33 0 rfl rfl rfl rfl) <|
      sq rfl (q_move rfl) <|
      sq rfl (q_move rfl) <|
      sq rfl (q_slsl_lo_hi ty33 ty41 hb rfl rfl rfl (by omega)) <|
      sq_end) ?_
    clear hF hS; intro a w hF hS
    refine wpl_ef hF hS rfl (ef_call fn63 rfl (fun w hS => cloneL_ct _ _ (by rw [List.length_drop, List.length_take]; omega) w (Sl.mono (hS.le zin0) (Sl.cut hb (by omega))))) ?_
    clear hF hS; rintro v3 _ _ a w ⟨_, _, rfl, rfl, ⟨z4, hz5, rfl, rfl⟩⟩ hF hS
    replace hS : St _ [_] [_, _] _ := hS
    refine wpl_sq hF hS (sq rfl (q_assign rfl) <|
      sq rfl (q_assign rfl) <|
      sq_end) ?_
    clear hF hS; intro a w hF hS
    refine wpList_nil ?_
    refine hK12 _ _ ?_
    clear hK12
    refine wp_ret ?_
    exact fn_ret (rs := [.tmp 8, .tmp 9]) rfl hF hS (vs := [_, _]) ⟨rfl, rfl, trivial⟩ (zs' := [_]) (hs' := []) (List.singleton_sublist.2 (by simp)) zQ (se_of ⟨_, _, hz5, rfl, rfl, rfl⟩ (by rw [Mk.chkR_t hlm hu hbd, Int.toNat_natCast, Int.toNat_natCast]) (by rw [Mk.chkR_t hlm hu hbd]))

end Go.Proofs.YtdojfnigffeblaaDoor
