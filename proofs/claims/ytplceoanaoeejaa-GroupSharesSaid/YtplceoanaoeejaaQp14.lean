/- A text of a proof over this seat: walks over the program's functions and the plain laws that they need. -/
import Derived.Test.YtplceoanaoeejaaQg14
import Derived.Test.YtplceoanaoeejaaGpA
import Derived.Test.YtplceoanaoeejaaFwC
import Derived.Test.YtplceoanaoeejaaFwB
set_option linter.all false
namespace Go.Proofs.Ytplceoanaoeejaa
open Go.Fw
theorem ty23 : Tf Try.prog 23 (.slice 33) 1 24 (Value.slice none 0 0) := ⟨Try.underlying23, by kernel_rfl⟩
theorem ty24 : Tf Try.prog 24 (.slice 37) 1 24 (Value.slice none 0 0) := ⟨Try.underlying24, by kernel_rfl⟩
theorem ty25 : Tf Try.prog 25 (.slice 29) 1 24 (Value.slice none 0 0) := ⟨Try.underlying25, by kernel_rfl⟩
theorem fn27 : FnOk Try.prog 27 := ⟨_, Try.func27, rfl, by kernel_rfl⟩
theorem fn28 : FnOk Try.prog 28 := ⟨_, Try.func28, rfl, by kernel_rfl⟩
theorem fn29 : FnOk Try.prog 29 := ⟨_, Try.func29, rfl, by kernel_rfl⟩
theorem fn31 : FnOk Try.prog 31 := ⟨_, Try.func31, rfl, by kernel_rfl⟩

/-- Lattices, queues and marks. -/
def CasesR (r : Value) (zs : List PH) (hs : List Res) : Prop :=
 ∃ (vx vq vm : Value) (ls : List (List (List Value) × List Int × List Bool)) (qs : List (Int × List Int)) (ms : List (List Bool)) (z : PH), r = .tuple #[vx, vq, vm] ∧ Sl encL z vx ls ∧ Sl encQ z vq qs ∧ Sl (encSl encT) z vm ms ∧ (ls.length = 5 ∧ qs.length = 5 ∧ ms.length = 5) ∧
  (∀ x ∈ ls, x.1.length ≤ 40 ∧ x.2.1.length ≤ 40 ∧ x.2.2.length ≤ 40) ∧ (∀ q ∈ qs, q.2.length ≤ 9) ∧ (∀ m ∈ ms, m.length ≤ 40) ∧ zs = [z] ∧ hs = []

set_option maxRecDepth 4000 in
set_option maxHeartbeats 2000000 in
theorem cases_ct (v : Value) (l : List Int) (v2 : Value) (m : List Int) (h : Int) (b : Int) (hh9 : -9223372036854775808 ≤ h ∧ h ≤ 9223372036854775807) (hb9 : -9223372036854775808 ≤ b ∧ b ≤ 9223372036854775807) (w : World) (hl : Sl encI (ph w) v l) (hm : Sl encI (ph w) v2 m) : Ct Try.prog 8 [v, v2, vi h, vi b] w (CasesR) := by
 refine fn_enter Try.func8 rfl Try.ntmps8 (Nat.le_of_ble_eq_true rfl) fun a hF hS => ?_
 refine wp_seq_k ?_; intro K1 hK1
 refine reg hF hS (sq rfl (q_assign rfl) <|
   sq rfl (q_assign rfl) <|
   sq rfl (q_assign rfl) <|
   sq_end) ?_
 clear hF hS; intro a w hF hS
 refine hK1 _ _ ?_
 clear hK1
 refine wp_seq_k ?_; intro K2 hK2
 refine regl ?_
 refine wpl_sq hF hS (sq rfl (q_move rfl) <|
   sq_end) ?_
 clear hF hS; intro a w hF hS
 refine wpl_ef hF hS rfl (ef_call fn27 rfl (fun w hS => family_ct _ _ w (Sl.mono (hS.le zin0) hl))) ?_
 clear hF hS; rintro _ _ _ a w ⟨_, _, rfl, rfl, ⟨nvF, svF, bvF, ns, xs, xb, zF, rfl, hnF, hsF, hbF, lnF, lsF, lbF, leqF, rfl, rfl⟩⟩ hF hS
 replace hS : St _ [_] [] _ := hS
 refine wpl_ef hF hS rfl (ef_allocA ty33) ?_
 clear hF hS; rintro _ _ _ a w ⟨b2, rfl, rfl, rfl⟩ hF hS
 refine wpl_ef hF hS rfl (ef_storeW ty33 0 rfl rfl rfl rfl bQ (oc_cons (sl_one' hnF) (oc_cons (sl_one' hsF) (oc_cons (sl_one' hbF) oc_nil))) bQ) ?_
 clear hF hS; rintro _ _ _ a w ⟨rfl, rfl, rfl⟩ hF hS
 replace hS : St _ [_] [_] _ := hS
 refine wpList_nil ?_
 obtain ⟨heq, hfam, hpos⟩ := leqF
 refine hK2 _ _ ?_
 clear hK2
 refine wp_seq_k ?_; intro K3 hK3
 refine regl ?_
 refine wpl_sq hF hS (sq rfl (q_ld_blkW ty33 0 rfl rfl bQ rfl) <|
   sq rfl (q_move rfl) <|
   sq rfl (q_move rfl) <|
   sq_end) ?_
 clear hF hS; intro a w hF hS
 refine wpl_ef hF hS rfl (ef_call fn31 rfl (fun w hS => odd_ct _ _ _ _ _ _ _ _ (by omega) (by omega) 32 (by omega) w (Sl.mono (hS.le (.inr (by simp))) hnF) (Sl.mono (hS.le (.inr (by simp))) hsF) (Sl.mono (hS.le (.inr (by simp))) hbF))) ?_
 clear hF hS; rintro _ _ _ a w ⟨_, _, rfl, rfl, ⟨nvO, svO, bvO, nsO, ys, yb, zO, rfl, hnO, hsO, hbO, lnO, lsO, lbO, -, rfl, rfl⟩⟩ hF hS
 replace hS : St _ [_, _] [_] _ := hS
 refine wpl_ef hF hS rfl (ef_allocA ty33) ?_
 clear hF hS; rintro _ _ _ a w ⟨b4, rfl, rfl, rfl⟩ hF hS
 refine wpl_ef hF hS rfl (ef_storeW ty33 0 rfl rfl rfl rfl bQ (oc_cons (sl_one' hnO) (oc_cons (sl_one' hsO) (oc_cons (sl_one' hbO) oc_nil))) bQ) ?_
 clear hF hS; rintro _ _ _ a w ⟨rfl, rfl, rfl⟩ hF hS
 replace hS : St _ [_, _] [_, _] _ := hS
 refine wpList_nil ?_
 refine hK3 _ _ ?_
 clear hK3
 refine wp_seq_k ?_; intro K4 hK4
 refine regl ?_
 refine wpl_sq hF hS (sq rfl (q_ld_blkW ty33 1 rfl rfl bQ rfl) <|
   sq rfl (q_move rfl) <|
   sq_end) ?_
 clear hF hS; intro a w hF hS
 refine wpl_ef hF hS rfl (ef_call fn28 rfl (fun w hS => made_ct _ _ _ _ _ _ _ (by omega) w (sl_one' hnF) (Sl.mono (hS.le (.inr (by simp))) hsF) (Sl.mono (hS.le (.inr (by simp))) hbF) (Sl.mono (hS.le zin0) hm))) ?_
 clear hF hS; rintro _ _ _ a w ⟨_, _, rfl, rfl, ⟨vD, mdB, mdC, zD, rfl, hzD, hmL, hmI, hmR, rfl, rfl⟩⟩ hF hS
 replace hS : St _ [_, _, _] [_, _] _ := hS
 refine wpl_ef hF hS rfl (ef_allocA ty37) ?_
 clear hF hS; rintro _ _ _ a w ⟨b6, rfl, rfl, rfl⟩ hF hS
 refine wpl_ef hF hS rfl (ef_storeW ty37 0 rfl rfl rfl rfl bQ (oc_cons rfl (oc_cons (sl_one' hzD) oc_nil)) bQ) ?_
 clear hF hS; rintro _ _ _ a w ⟨rfl, rfl, rfl⟩ hF hS
 replace hS : St _ [_, _, _] [_, _, _] _ := hS
 refine wpList_nil ?_
 refine hK4 _ _ ?_
 clear hK4
 refine wp_seq_k ?_; intro K5 hK5
 revert hS; revert hF; apply regJ (J := J5 (α0 := Value) (α1 := Value) (α2 := Value) (α3 := Value) (α4 := Nat) 76 _ _ _ _ _) #[false, false, false, false, false, false, false, false, false, false, false, false, false] 13 mixed rfl rfl
 ·intro w hF hS
  refine goW_take 0 _ rfl kQ rfl hF (hS.keep sQ zQ) (q_fieldAddr ty37 rfl rfl (s' := 0) kQ) ?_
  clear hF; intro a hF
  refine goW_take 1 _ rfl kQ rfl hF (hS.keep sQ (zQ.k)) (q_ld_blk1 ty3 0 rfl rfl rfl rfl) ?_
  clear hF; intro a hF
  refine goW_take 3 _ rfl kQ rfl hF (hS.keep sQ zQ) (q_fieldAddr ty37 rfl rfl (s' := 0) kQ) ?_
  clear hF; intro a hF
  refine goW_take 4 _ rfl kQ rfl hF (hS.keep sQ (zQ.k)) (q_ld_blk1 ty22 0 rfl rfl rfl rfl) ?_
  clear hF; intro a hF
  refine goW_take 6 _ rfl kQ rfl hF (hS.keep sQ zQ) (q_move rfl) ?_
  clear hF; intro a hF
  refine goW_take 7 _ rfl kQ rfl hF (hS.keep sQ zQ) (q_subi_w rfl rfl) ?_
  clear hF; intro a hF
  refine goW_fork [2, 8, 11] kQ rfl ⟨?_, ?_, ?_, trivial⟩
  ·refine stepW_ef _ rfl rfl hF hS rfl (ef_bslice0 ty22 ty3) ?_
   clear hF hS; rintro v_4_2 _ _ a w ⟨rfl, rfl⟩ hF hS
   refine ⟨⟨.inr (hS.keep sQ zQ), .inr (hS.keep sQ zQ), .inr (hS.keep sQ (zQ.k.n)), .inr (hS.keep sQ zQ), .inr (hS.keep sQ (zQ.k.n)), .inr (hS.keep sQ zQ), trivial⟩, ?_⟩
   refine goW_fork [5, 8, 11] kQ rfl ⟨?_, ?_, ?_, trivial⟩
   ·refine stepW_ef _ rfl rfl hF hS rfl (ef_append ty22 ty3 0 rfl rfl rfl (src_slV ty22 hzD (.inr (by simp))) bQ rfl (by decide)) ?_
    clear hF hS; rintro v_4_5 _ _ a w ⟨rfl, rfl⟩ hF hS
    refine ⟨⟨.inr (hS.keep sQ zQ), .inr (hS.keep sQ zQ), iQ, iQ, .inr (hS.keep sQ (zQ.k.n)), .inr (hS.keep sQ zQ), trivial⟩, ?_⟩
    refine goW_fork [8, 11] kQ rfl ⟨?_, ?_, trivial⟩
    ·refine stepW_ef _ rfl rfl hF hS rfl (ef_bsliceA ty22 ty3 rfl rfl oQ (by decide) rfl rfl) ?_
     clear hF hS; rintro v_4_8 _ _ a w ⟨rfl, rfl⟩ hF hS
     refine ⟨⟨iQ, iQ, iQ, iQ, .inr (hS.keep sQ (zQ.k.n.n)), .inr (hS.keep sQ zQ), trivial⟩, ?_⟩
     refine goW_fork [9, 11] kQ rfl ⟨?_, ?_, trivial⟩
     ·refine stepW_ef _ rfl rfl hF hS rfl (ef_append ty22 ty3 1 rfl rfl rfl (src_row ty22 (k := 0) rfl oQ) bQ rfl (by decide)) ?_
      clear hF hS; rintro v_4_9 _ _ a w ⟨rfl, rfl⟩ hF hS
      refine ⟨⟨iQ, iQ, iQ, iQ, .inr (hS.keep sQ (zQ.k.n.n)), .inr (hS.keep sQ zQ), trivial⟩, ?_⟩
      refine goW_take 10 _ rfl kQ rfl hF (hS.keep sQ (zQ.k.n)) (q_buildS1 ty37 2 kQ rfl rfl (oc_cons rfl (oc_cons (row_one (hS.own _ (List.mem_of_getElem? (i := 1) rfl)).1) oc_nil)) rfl rfl) ?_
      clear hF; intro a hF
      refine gQ 11 rfl rfl hF hS rfl (ef_allocA ty37) ?_
      clear hF hS; rintro _ _ _ a w ⟨b_4_11, rfl, rfl, rfl⟩ hF hS
      refine ⟨⟨.inr (hS.keep sQ (zQ.k.n.n)), iQ, iQ, iQ, iQ, .inr (hS.keep sQ (zQ.k.n.n.n)), .inr (hS.keep sQ zQ), trivial⟩, ?_⟩
      refine gQ 12 rfl rfl hF hS rfl (ef_storeW ty37 0 rfl rfl rfl rfl bQ (oc_cons rfl (oc_cons (row_one (hS.own _ (List.mem_of_getElem? (i := 2) rfl)).1) oc_nil)) bQ) ?_
      clear hF hS; rintro _ _ _ a w ⟨rfl, rfl, rfl⟩ hF hS
      refine ⟨⟨iQ, iQ, iQ, iQ, iQ, iQ, iQ, trivial⟩, ?_⟩
      exact goW_done kQ (j5_mk v_4_2 v_4_5 v_4_8 v_4_9 b_4_11 (trivial) (hF.sub (L' := [(1, _), (2, _), (3, _), (11, _), (12, _), (13, _), (14, _)]) ⟨rfl, rfl, rfl, rfl, rfl, rfl, rfl, trivial⟩) hS)
     ·refine stepW_ef _ rfl rfl hF hS rfl (ef_allocA ty37) ?_
      clear hF hS; rintro _ _ _ a w ⟨b_4_11, rfl, rfl, rfl⟩ hF hS
      refine ⟨⟨iQ, iQ, iQ, iQ, .inr (hS.keep sQ (zQ.k.n.n.n)), .inr (hS.keep sQ zQ), trivial⟩, ?_⟩
      refine gQ 9 rfl rfl hF hS rfl (ef_append ty22 ty3 2 rfl rfl rfl (src_row ty22 (k := 1) rfl oQ) bQ rfl (by decide)) ?_
      clear hF hS; rintro v_4_9 _ _ a w ⟨rfl, rfl⟩ hF hS
      refine ⟨⟨iQ, iQ, iQ, iQ, .inr (hS.keep sQ (zQ.k.n.n.n)), .inr (hS.keep sQ zQ), trivial⟩, ?_⟩
      refine goW_take 10 _ rfl kQ rfl hF (hS.keep sQ (zQ.k.n.n)) (q_buildS1 ty37 2 kQ rfl rfl (oc_cons rfl (oc_cons (row_one (hS.own _ (List.mem_of_getElem? (i := 2) rfl)).1) oc_nil)) rfl rfl) ?_
      clear hF; intro a hF
      refine gQ 12 rfl rfl hF hS rfl (ef_storeW ty37 0 rfl rfl rfl rfl bQ (oc_cons rfl (oc_cons (row_one (hS.own _ (List.mem_of_getElem? (i := 2) rfl)).1) oc_nil)) bQ) ?_
      clear hF hS; rintro _ _ _ a w ⟨rfl, rfl, rfl⟩ hF hS
      refine ⟨⟨iQ, iQ, iQ, iQ, iQ, iQ, iQ, trivial⟩, ?_⟩
      exact goW_done kQ (j5_mk v_4_2 v_4_5 v_4_8 v_4_9 b_4_11 (trivial) (hF.sub (L' := [(1, _), (2, _), (3, _), (11, _), (12, _), (13, _), (14, _)]) ⟨rfl, rfl, rfl, rfl, rfl, rfl, rfl, trivial⟩) hS)
    ·refine stepW_ef _ rfl rfl hF hS rfl (ef_allocA ty37) ?_
     clear hF hS; rintro _ _ _ a w ⟨b_4_11, rfl, rfl, rfl⟩ hF hS
     refine ⟨⟨.inr (hS.keep sQ zQ), .inr (hS.keep sQ zQ), iQ, iQ, .inr (hS.keep sQ (zQ.k.n.n)), .inr (hS.keep sQ zQ), trivial⟩, ?_⟩
     refine gQ 8 rfl rfl hF hS rfl (ef_bsliceA ty22 ty3 rfl rfl oQ (by decide) rfl rfl) ?_
     clear hF hS; rintro v_4_8 _ _ a w ⟨rfl, rfl⟩ hF hS
     refine ⟨⟨iQ, iQ, iQ, iQ, .inr (hS.keep sQ (zQ.k.n.n.n)), .inr (hS.keep sQ zQ), trivial⟩, ?_⟩
     refine gQ 9 rfl rfl hF hS rfl (ef_append ty22 ty3 2 rfl rfl rfl (src_row ty22 (k := 0) rfl oQ) bQ rfl (by decide)) ?_
     clear hF hS; rintro v_4_9 _ _ a w ⟨rfl, rfl⟩ hF hS
     refine ⟨⟨iQ, iQ, iQ, iQ, .inr (hS.keep sQ (zQ.k.n.n.n)), .inr (hS.keep sQ zQ), trivial⟩, ?_⟩
     refine goW_take 10 _ rfl kQ rfl hF (hS.keep sQ (zQ.k.n.n)) (q_buildS1 ty37 2 kQ rfl rfl (oc_cons rfl (oc_cons (row_one (hS.own _ (List.mem_of_getElem? (i := 2) rfl)).1) oc_nil)) rfl rfl) ?_
     clear hF; intro a hF
     refine gQ 12 rfl rfl hF hS rfl (ef_storeW ty37 1 rfl rfl rfl rfl bQ (oc_cons rfl (oc_cons (row_one (hS.own _ (List.mem_of_getElem? (i := 2) rfl)).1) oc_nil)) bQ) ?_
     clear hF hS; rintro _ _ _ a w ⟨rfl, rfl, rfl⟩ hF hS
     refine ⟨⟨iQ, iQ, iQ, iQ, iQ, iQ, iQ, trivial⟩, ?_⟩
     exact goW_done kQ (j5_mk v_4_2 v_4_5 v_4_8 v_4_9 b_4_11 (trivial) (hF.sub (L' := [(1, _), (2, _), (3, _), (11, _), (12, _), (13, _), (14, _)]) ⟨rfl, rfl, rfl, rfl, rfl, rfl, rfl, trivial⟩) (hS.perm (.swap _ _ _)))
   ·refine stepW_ef _ rfl rfl hF hS rfl (ef_bsliceA ty22 ty3 rfl rfl oQ (by decide) rfl rfl) ?_
    clear hF hS; rintro v_4_8 _ _ a w ⟨rfl, rfl⟩ hF hS
    refine ⟨⟨iQ, iQ, .inr (hS.keep sQ (zQ.k.n.n)), .inr (hS.keep sQ zQ), .inr (hS.keep sQ (zQ.k.n.n)), .inr (hS.keep sQ zQ), trivial⟩, ?_⟩
    refine goW_fork [5, 11] kQ rfl ⟨?_, ?_, trivial⟩
    ·refine stepW_ef _ rfl rfl hF hS rfl (ef_append ty22 ty3 1 rfl rfl rfl (src_slV ty22 hzD (.inr (by simp))) bQ rfl (by decide)) ?_
     clear hF hS; rintro v_4_5 _ _ a w ⟨rfl, rfl⟩ hF hS
     refine ⟨⟨iQ, iQ, iQ, iQ, .inr (hS.keep sQ (zQ.k.n.n)), .inr (hS.keep sQ zQ), trivial⟩, ?_⟩
     refine goW_fork [9, 11] kQ rfl ⟨?_, ?_, trivial⟩
     ·refine stepW_ef _ rfl rfl hF hS rfl (ef_append ty22 ty3 1 rfl rfl rfl (src_row ty22 (k := 0) rfl oQ) bQ rfl (by decide)) ?_
      clear hF hS; rintro v_4_9 _ _ a w ⟨rfl, rfl⟩ hF hS
      refine ⟨⟨iQ, iQ, iQ, iQ, .inr (hS.keep sQ (zQ.k.n.n)), .inr (hS.keep sQ zQ), trivial⟩, ?_⟩
      refine goW_take 10 _ rfl kQ rfl hF (hS.keep sQ (zQ.k.n)) (q_buildS1 ty37 2 kQ rfl rfl (oc_cons rfl (oc_cons (row_one (hS.own _ (List.mem_of_getElem? (i := 1) rfl)).1) oc_nil)) rfl rfl) ?_
      clear hF; intro a hF
      refine gQ 11 rfl rfl hF hS rfl (ef_allocA ty37) ?_
      clear hF hS; rintro _ _ _ a w ⟨b_4_11, rfl, rfl, rfl⟩ hF hS
      refine ⟨⟨.inr (hS.keep sQ (zQ.k.n.n)), iQ, iQ, iQ, iQ, .inr (hS.keep sQ (zQ.k.n.n.n)), .inr (hS.keep sQ zQ), trivial⟩, ?_⟩
      refine gQ 12 rfl rfl hF hS rfl (ef_storeW ty37 0 rfl rfl rfl rfl bQ (oc_cons rfl (oc_cons (row_one (hS.own _ (List.mem_of_getElem? (i := 2) rfl)).1) oc_nil)) bQ) ?_
      clear hF hS; rintro _ _ _ a w ⟨rfl, rfl, rfl⟩ hF hS
      refine ⟨⟨iQ, iQ, iQ, iQ, iQ, iQ, iQ, trivial⟩, ?_⟩
      exact goW_done kQ (j5_mk v_4_2 v_4_5 v_4_8 v_4_9 b_4_11 (trivial) (hF.sub (L' := [(1, _), (2, _), (3, _), (11, _), (12, _), (13, _), (14, _)]) ⟨rfl, rfl, rfl, rfl, rfl, rfl, rfl, trivial⟩) hS)
     ·refine stepW_ef _ rfl rfl hF hS rfl (ef_allocA ty37) ?_
      clear hF hS; rintro _ _ _ a w ⟨b_4_11, rfl, rfl, rfl⟩ hF hS
      refine ⟨⟨iQ, iQ, iQ, iQ, .inr (hS.keep sQ (zQ.k.n.n.n)), .inr (hS.keep sQ zQ), trivial⟩, ?_⟩
      refine gQ 9 rfl rfl hF hS rfl (ef_append ty22 ty3 2 rfl rfl rfl (src_row ty22 (k := 1) rfl oQ) bQ rfl (by decide)) ?_
      clear hF hS; rintro v_4_9 _ _ a w ⟨rfl, rfl⟩ hF hS
      refine ⟨⟨iQ, iQ, iQ, iQ, .inr (hS.keep sQ (zQ.k.n.n.n)), .inr (hS.keep sQ zQ), trivial⟩, ?_⟩
      refine goW_take 10 _ rfl kQ rfl hF (hS.keep sQ (zQ.k.n.n)) (q_buildS1 ty37 2 kQ rfl rfl (oc_cons rfl (oc_cons (row_one (hS.own _ (List.mem_of_getElem? (i := 2) rfl)).1) oc_nil)) rfl rfl) ?_
      clear hF; intro a hF
      refine gQ 12 rfl rfl hF hS rfl (ef_storeW ty37 0 rfl rfl rfl rfl bQ (oc_cons rfl (oc_cons (row_one (hS.own _ (List.mem_of_getElem? (i := 2) rfl)).1) oc_nil)) bQ) ?_
      clear hF hS; rintro _ _ _ a w ⟨rfl, rfl, rfl⟩ hF hS
      refine ⟨⟨iQ, iQ, iQ, iQ, iQ, iQ, iQ, trivial⟩, ?_⟩
      exact goW_done kQ (j5_mk v_4_2 v_4_5 v_4_8 v_4_9 b_4_11 (trivial) (hF.sub (L' := [(1, _), (2, _), (3, _), (11, _), (12, _), (13, _), (14, _)]) ⟨rfl, rfl, rfl, rfl, rfl, rfl, rfl, trivial⟩) hS)
    ·refine stepW_ef _ rfl rfl hF hS rfl (ef_allocA ty37) ?_
     clear hF hS; rintro _ _ _ a w ⟨b_4_11, rfl, rfl, rfl⟩ hF hS
     refine ⟨⟨iQ, iQ, .inr (hS.keep sQ (zQ.k.n.n.n)), .inr (hS.keep sQ zQ), .inr (hS.keep sQ (zQ.k.n.n.n)), .inr (hS.keep sQ zQ), trivial⟩, ?_⟩
     refine gQ 5 rfl rfl hF hS rfl (ef_append ty22 ty3 2 rfl rfl rfl (src_slV ty22 hzD (.inr (by simp))) bQ rfl (by decide)) ?_
     clear hF hS; rintro v_4_5 _ _ a w ⟨rfl, rfl⟩ hF hS
     refine ⟨⟨iQ, iQ, iQ, iQ, .inr (hS.keep sQ (zQ.k.n.n.n)), .inr (hS.keep sQ zQ), trivial⟩, ?_⟩
     refine gQ 9 rfl rfl hF hS rfl (ef_append ty22 ty3 2 rfl rfl rfl (src_row ty22 (k := 1) rfl oQ) bQ rfl (by decide)) ?_
     clear hF hS; rintro v_4_9 _ _ a w ⟨rfl, rfl⟩ hF hS
     refine ⟨⟨iQ, iQ, iQ, iQ, .inr (hS.keep sQ (zQ.k.n.n.n)), .inr (hS.keep sQ zQ), trivial⟩, ?_⟩
     refine goW_take 10 _ rfl kQ rfl hF (hS.keep sQ (zQ.k.n.n)) (q_buildS1 ty37 2 kQ rfl rfl (oc_cons rfl (oc_cons (row_one (hS.own _ (List.mem_of_getElem? (i := 2) rfl)).1) oc_nil)) rfl rfl) ?_
     clear hF; intro a hF
     refine gQ 12 rfl rfl hF hS rfl (ef_storeW ty37 0 rfl rfl rfl rfl bQ (oc_cons rfl (oc_cons (row_one (hS.own _ (List.mem_of_getElem? (i := 2) rfl)).1) oc_nil)) bQ) ?_
     clear hF hS; rintro _ _ _ a w ⟨rfl, rfl, rfl⟩ hF hS
     refine ⟨⟨iQ, iQ, iQ, iQ, iQ, iQ, iQ, trivial⟩, ?_⟩
     exact goW_done kQ (j5_mk v_4_2 v_4_5 v_4_8 v_4_9 b_4_11 (trivial) (hF.sub (L' := [(1, _), (2, _), (3, _), (11, _), (12, _), (13, _), (14, _)]) ⟨rfl, rfl, rfl, rfl, rfl, rfl, rfl, trivial⟩) hS)
   ·refine stepW_ef _ rfl rfl hF hS rfl (ef_allocA ty37) ?_
    clear hF hS; rintro _ _ _ a w ⟨b_4_11, rfl, rfl, rfl⟩ hF hS
    refine ⟨⟨.inr (hS.keep sQ zQ), .inr (hS.keep sQ zQ), .inr (hS.keep sQ (zQ.k.n.n)), .inr (hS.keep sQ zQ), .inr (hS.keep sQ (zQ.k.n.n)), .inr (hS.keep sQ zQ), trivial⟩, ?_⟩
    refine goW_fork [5, 8] kQ rfl ⟨?_, ?_, trivial⟩
    ·refine stepW_ef _ rfl rfl hF hS rfl (ef_append ty22 ty3 1 rfl rfl rfl (src_slV ty22 hzD (.inr (by simp))) bQ rfl (by decide)) ?_
     clear hF hS; rintro v_4_5 _ _ a w ⟨rfl, rfl⟩ hF hS
     refine ⟨⟨.inr (hS.keep sQ zQ), .inr (hS.keep sQ zQ), iQ, iQ, .inr (hS.keep sQ (zQ.k.n.n)), .inr (hS.keep sQ zQ), trivial⟩, ?_⟩
     refine gQ 8 rfl rfl hF hS rfl (ef_bsliceA ty22 ty3 rfl rfl oQ (by decide) rfl rfl) ?_
     clear hF hS; rintro v_4_8 _ _ a w ⟨rfl, rfl⟩ hF hS
     refine ⟨⟨iQ, iQ, iQ, iQ, .inr (hS.keep sQ (zQ.k.n.n.n)), .inr (hS.keep sQ zQ), trivial⟩, ?_⟩
     refine gQ 9 rfl rfl hF hS rfl (ef_append ty22 ty3 2 rfl rfl rfl (src_row ty22 (k := 0) rfl oQ) bQ rfl (by decide)) ?_
     clear hF hS; rintro v_4_9 _ _ a w ⟨rfl, rfl⟩ hF hS
     refine ⟨⟨iQ, iQ, iQ, iQ, .inr (hS.keep sQ (zQ.k.n.n.n)), .inr (hS.keep sQ zQ), trivial⟩, ?_⟩
     refine goW_take 10 _ rfl kQ rfl hF (hS.keep sQ (zQ.k.n.n)) (q_buildS1 ty37 2 kQ rfl rfl (oc_cons rfl (oc_cons (row_one (hS.own _ (List.mem_of_getElem? (i := 2) rfl)).1) oc_nil)) rfl rfl) ?_
     clear hF; intro a hF
     refine gQ 12 rfl rfl hF hS rfl (ef_storeW ty37 1 rfl rfl rfl rfl bQ (oc_cons rfl (oc_cons (row_one (hS.own _ (List.mem_of_getElem? (i := 2) rfl)).1) oc_nil)) bQ) ?_
     clear hF hS; rintro _ _ _ a w ⟨rfl, rfl, rfl⟩ hF hS
     refine ⟨⟨iQ, iQ, iQ, iQ, iQ, iQ, iQ, trivial⟩, ?_⟩
     exact goW_done kQ (j5_mk v_4_2 v_4_5 v_4_8 v_4_9 b_4_11 (trivial) (hF.sub (L' := [(1, _), (2, _), (3, _), (11, _), (12, _), (13, _), (14, _)]) ⟨rfl, rfl, rfl, rfl, rfl, rfl, rfl, trivial⟩) (hS.perm (.swap _ _ _)))
    ·refine stepW_ef _ rfl rfl hF hS rfl (ef_bsliceA ty22 ty3 rfl rfl oQ (by decide) rfl rfl) ?_
     clear hF hS; rintro v_4_8 _ _ a w ⟨rfl, rfl⟩ hF hS
     refine ⟨⟨iQ, iQ, .inr (hS.keep sQ (zQ.k.n.n.n)), .inr (hS.keep sQ zQ), .inr (hS.keep sQ (zQ.k.n.n.n)), .inr (hS.keep sQ zQ), trivial⟩, ?_⟩
     refine gQ 5 rfl rfl hF hS rfl (ef_append ty22 ty3 2 rfl rfl rfl (src_slV ty22 hzD (.inr (by simp))) bQ rfl (by decide)) ?_
     clear hF hS; rintro v_4_5 _ _ a w ⟨rfl, rfl⟩ hF hS
     refine ⟨⟨iQ, iQ, iQ, iQ, .inr (hS.keep sQ (zQ.k.n.n.n)), .inr (hS.keep sQ zQ), trivial⟩, ?_⟩
     refine gQ 9 rfl rfl hF hS rfl (ef_append ty22 ty3 2 rfl rfl rfl (src_row ty22 (k := 0) rfl oQ) bQ rfl (by decide)) ?_
     clear hF hS; rintro v_4_9 _ _ a w ⟨rfl, rfl⟩ hF hS
     refine ⟨⟨iQ, iQ, iQ, iQ, .inr (hS.keep sQ (zQ.k.n.n.n)), .inr (hS.keep sQ zQ), trivial⟩, ?_⟩
     refine goW_take 10 _ rfl kQ rfl hF (hS.keep sQ (zQ.k.n.n)) (q_buildS1 ty37 2 kQ rfl rfl (oc_cons rfl (oc_cons (row_one (hS.own _ (List.mem_of_getElem? (i := 2) rfl)).1) oc_nil)) rfl rfl) ?_
     clear hF; intro a hF
     refine gQ 12 rfl rfl hF hS rfl (ef_storeW ty37 1 rfl rfl rfl rfl bQ (oc_cons rfl (oc_cons (row_one (hS.own _ (List.mem_of_getElem? (i := 2) rfl)).1) oc_nil)) bQ) ?_
     clear hF hS; rintro _ _ _ a w ⟨rfl, rfl, rfl⟩ hF hS
     refine ⟨⟨iQ, iQ, iQ, iQ, iQ, iQ, iQ, trivial⟩, ?_⟩
     exact goW_done kQ (j5_mk v_4_2 v_4_5 v_4_8 v_4_9 b_4_11 (trivial) (hF.sub (L' := [(1, _), (2, _), (3, _), (11, _), (12, _), (13, _), (14, _)]) ⟨rfl, rfl, rfl, rfl, rfl, rfl, rfl, trivial⟩) (hS.perm (.swap _ _ _)))
  ·refine stepW_ef _ rfl rfl hF hS rfl (ef_bsliceA ty22 ty3 rfl rfl oQ (by decide) rfl rfl) ?_
   clear hF hS; rintro v_4_8 _ _ a w ⟨rfl, rfl⟩ hF hS
   refine ⟨⟨iQ, iQ, .inr (hS.keep sQ (zQ.k.n)), .inr (hS.keep sQ zQ), .inr (hS.keep sQ (zQ.k.n)), .inr (hS.keep sQ zQ), trivial⟩, ?_⟩
   refine goW_fork [2, 11] kQ rfl ⟨?_, ?_, trivial⟩
   ·refine stepW_ef _ rfl rfl hF hS rfl (ef_bslice0 ty22 ty3) ?_
    clear hF hS; rintro v_4_2 _ _ a w ⟨rfl, rfl⟩ hF hS
    refine ⟨⟨iQ, iQ, .inr (hS.keep sQ (zQ.k.n.n)), .inr (hS.keep sQ zQ), .inr (hS.keep sQ (zQ.k.n.n)), .inr (hS.keep sQ zQ), trivial⟩, ?_⟩
    refine goW_fork [5, 11] kQ rfl ⟨?_, ?_, trivial⟩
    ·refine stepW_ef _ rfl rfl hF hS rfl (ef_append ty22 ty3 0 rfl rfl rfl (src_slV ty22 hzD (.inr (by simp))) bQ rfl (by decide)) ?_
     clear hF hS; rintro v_4_5 _ _ a w ⟨rfl, rfl⟩ hF hS
     refine ⟨⟨iQ, iQ, iQ, iQ, .inr (hS.keep sQ (zQ.k.n.n)), .inr (hS.keep sQ zQ), trivial⟩, ?_⟩
     refine goW_fork [9, 11] kQ rfl ⟨?_, ?_, trivial⟩
     ·refine stepW_ef _ rfl rfl hF hS rfl (ef_append ty22 ty3 0 rfl rfl rfl (src_row ty22 (k := 1) rfl oQ) bQ rfl (by decide)) ?_
      clear hF hS; rintro v_4_9 _ _ a w ⟨rfl, rfl⟩ hF hS
      refine ⟨⟨iQ, iQ, iQ, iQ, .inr (hS.keep sQ (zQ.k.n.n)), .inr (hS.keep sQ zQ), trivial⟩, ?_⟩
      refine goW_take 10 _ rfl kQ rfl hF (hS.keep sQ (zQ.k)) (q_buildS1 ty37 2 kQ rfl rfl (oc_cons rfl (oc_cons (row_one (hS.own _ (List.mem_of_getElem? (i := 0) rfl)).1) oc_nil)) rfl rfl) ?_
      clear hF; intro a hF
      refine gQ 11 rfl rfl hF hS rfl (ef_allocA ty37) ?_
      clear hF hS; rintro _ _ _ a w ⟨b_4_11, rfl, rfl, rfl⟩ hF hS
      refine ⟨⟨.inr (hS.keep sQ (zQ.k.n)), iQ, iQ, iQ, iQ, .inr (hS.keep sQ (zQ.k.n.n.n)), .inr (hS.keep sQ zQ), trivial⟩, ?_⟩
      refine gQ 12 rfl rfl hF hS rfl (ef_storeW ty37 0 rfl rfl rfl rfl bQ (oc_cons rfl (oc_cons (row_one (hS.own _ (List.mem_of_getElem? (i := 1) rfl)).1) oc_nil)) bQ) ?_
      clear hF hS; rintro _ _ _ a w ⟨rfl, rfl, rfl⟩ hF hS
      refine ⟨⟨iQ, iQ, iQ, iQ, iQ, iQ, iQ, trivial⟩, ?_⟩
      exact goW_done kQ (j5_mk v_4_2 v_4_5 v_4_8 v_4_9 b_4_11 (trivial) (hF.sub (L' := [(1, _), (2, _), (3, _), (11, _), (12, _), (13, _), (14, _)]) ⟨rfl, rfl, rfl, rfl, rfl, rfl, rfl, trivial⟩) (hS.perm (.cons _ (.swap _ _ _))))
     ·refine stepW_ef _ rfl rfl hF hS rfl (ef_allocA ty37) ?_
      clear hF hS; rintro _ _ _ a w ⟨b_4_11, rfl, rfl, rfl⟩ hF hS
      refine ⟨⟨iQ, iQ, iQ, iQ, .inr (hS.keep sQ (zQ.k.n.n.n)), .inr (hS.keep sQ zQ), trivial⟩, ?_⟩
      refine gQ 9 rfl rfl hF hS rfl (ef_append ty22 ty3 1 rfl rfl rfl (src_row ty22 (k := 2) rfl oQ) bQ rfl (by decide)) ?_
      clear hF hS; rintro v_4_9 _ _ a w ⟨rfl, rfl⟩ hF hS
      refine ⟨⟨iQ, iQ, iQ, iQ, .inr (hS.keep sQ (zQ.k.n.n.n)), .inr (hS.keep sQ zQ), trivial⟩, ?_⟩
      refine goW_take 10 _ rfl kQ rfl hF (hS.keep sQ (zQ.k.n)) (q_buildS1 ty37 2 kQ rfl rfl (oc_cons rfl (oc_cons (row_one (hS.own _ (List.mem_of_getElem? (i := 1) rfl)).1) oc_nil)) rfl rfl) ?_
      clear hF; intro a hF
      refine gQ 12 rfl rfl hF hS rfl (ef_storeW ty37 0 rfl rfl rfl rfl bQ (oc_cons rfl (oc_cons (row_one (hS.own _ (List.mem_of_getElem? (i := 1) rfl)).1) oc_nil)) bQ) ?_
      clear hF hS; rintro _ _ _ a w ⟨rfl, rfl, rfl⟩ hF hS
      refine ⟨⟨iQ, iQ, iQ, iQ, iQ, iQ, iQ, trivial⟩, ?_⟩
      exact goW_done kQ (j5_mk v_4_2 v_4_5 v_4_8 v_4_9 b_4_11 (trivial) (hF.sub (L' := [(1, _), (2, _), (3, _), (11, _), (12, _), (13, _), (14, _)]) ⟨rfl, rfl, rfl, rfl, rfl, rfl, rfl, trivial⟩) (hS.perm (.cons _ (.swap _ _ _))))
    ·refine stepW_ef _ rfl rfl hF hS rfl (ef_allocA ty37) ?_
     clear hF hS; rintro _ _ _ a w ⟨b_4_11, rfl, rfl, rfl⟩ hF hS
     refine ⟨⟨iQ, iQ, .inr (hS.keep sQ (zQ.k.n.n.n)), .inr (hS.keep sQ zQ), .inr (hS.keep sQ (zQ.k.n.n.n)), .inr (hS.keep sQ zQ), trivial⟩, ?_⟩
     refine gQ 5 rfl rfl hF hS rfl (ef_append ty22 ty3 1 rfl rfl rfl (src_slV ty22 hzD (.inr (by simp))) bQ rfl (by decide)) ?_
     clear hF hS; rintro v_4_5 _ _ a w ⟨rfl, rfl⟩ hF hS
     refine ⟨⟨iQ, iQ, iQ, iQ, .inr (hS.keep sQ (zQ.k.n.n.n)), .inr (hS.keep sQ zQ), trivial⟩, ?_⟩
     refine gQ 9 rfl rfl hF hS rfl (ef_append ty22 ty3 1 rfl rfl rfl (src_row ty22 (k := 2) rfl oQ) bQ rfl (by decide)) ?_
     clear hF hS; rintro v_4_9 _ _ a w ⟨rfl, rfl⟩ hF hS
     refine ⟨⟨iQ, iQ, iQ, iQ, .inr (hS.keep sQ (zQ.k.n.n.n)), .inr (hS.keep sQ zQ), trivial⟩, ?_⟩
     refine goW_take 10 _ rfl kQ rfl hF (hS.keep sQ (zQ.k.n)) (q_buildS1 ty37 2 kQ rfl rfl (oc_cons rfl (oc_cons (row_one (hS.own _ (List.mem_of_getElem? (i := 1) rfl)).1) oc_nil)) rfl rfl) ?_
     clear hF; intro a hF
     refine gQ 12 rfl rfl hF hS rfl (ef_storeW ty37 0 rfl rfl rfl rfl bQ (oc_cons rfl (oc_cons (row_one (hS.own _ (List.mem_of_getElem? (i := 1) rfl)).1) oc_nil)) bQ) ?_
     clear hF hS; rintro _ _ _ a w ⟨rfl, rfl, rfl⟩ hF hS
     refine ⟨⟨iQ, iQ, iQ, iQ, iQ, iQ, iQ, trivial⟩, ?_⟩
     exact goW_done kQ (j5_mk v_4_2 v_4_5 v_4_8 v_4_9 b_4_11 (trivial) (hF.sub (L' := [(1, _), (2, _), (3, _), (11, _), (12, _), (13, _), (14, _)]) ⟨rfl, rfl, rfl, rfl, rfl, rfl, rfl, trivial⟩) (hS.perm (.cons _ (.swap _ _ _))))
   ·refine stepW_ef _ rfl rfl hF hS rfl (ef_allocA ty37) ?_
    clear hF hS; rintro _ _ _ a w ⟨b_4_11, rfl, rfl, rfl⟩ hF hS
    refine ⟨⟨iQ, iQ, .inr (hS.keep sQ (zQ.k.n.n)), .inr (hS.keep sQ zQ), .inr (hS.keep sQ (zQ.k.n.n)), .inr (hS.keep sQ zQ), trivial⟩, ?_⟩
    refine gQ 2 rfl rfl hF hS rfl (ef_bslice0 ty22 ty3) ?_
    clear hF hS; rintro v_4_2 _ _ a w ⟨rfl, rfl⟩ hF hS
    refine ⟨⟨iQ, iQ, .inr (hS.keep sQ (zQ.k.n.n.n)), .inr (hS.keep sQ zQ), .inr (hS.keep sQ (zQ.k.n.n.n)), .inr (hS.keep sQ zQ), trivial⟩, ?_⟩
    refine gQ 5 rfl rfl hF hS rfl (ef_append ty22 ty3 0 rfl rfl rfl (src_slV ty22 hzD (.inr (by simp))) bQ rfl (by decide)) ?_
    clear hF hS; rintro v_4_5 _ _ a w ⟨rfl, rfl⟩ hF hS
    refine ⟨⟨iQ, iQ, iQ, iQ, .inr (hS.keep sQ (zQ.k.n.n.n)), .inr (hS.keep sQ zQ), trivial⟩, ?_⟩
    refine gQ 9 rfl rfl hF hS rfl (ef_append ty22 ty3 0 rfl rfl rfl (src_row ty22 (k := 2) rfl oQ) bQ rfl (by decide)) ?_
    clear hF hS; rintro v_4_9 _ _ a w ⟨rfl, rfl⟩ hF hS
    refine ⟨⟨iQ, iQ, iQ, iQ, .inr (hS.keep sQ (zQ.k.n.n.n)), .inr (hS.keep sQ zQ), trivial⟩, ?_⟩
    refine goW_take 10 _ rfl kQ rfl hF (hS.keep sQ (zQ.k)) (q_buildS1 ty37 2 kQ rfl rfl (oc_cons rfl (oc_cons (row_one (hS.own _ (List.mem_of_getElem? (i := 0) rfl)).1) oc_nil)) rfl rfl) ?_
    clear hF; intro a hF
    refine gQ 12 rfl rfl hF hS rfl (ef_storeW ty37 1 rfl rfl rfl rfl bQ (oc_cons rfl (oc_cons (row_one (hS.own _ (List.mem_of_getElem? (i := 0) rfl)).1) oc_nil)) bQ) ?_
    clear hF hS; rintro _ _ _ a w ⟨rfl, rfl, rfl⟩ hF hS
    refine ⟨⟨iQ, iQ, iQ, iQ, iQ, iQ, iQ, trivial⟩, ?_⟩
    exact goW_done kQ (j5_mk v_4_2 v_4_5 v_4_8 v_4_9 b_4_11 (trivial) (hF.sub (L' := [(1, _), (2, _), (3, _), (11, _), (12, _), (13, _), (14, _)]) ⟨rfl, rfl, rfl, rfl, rfl, rfl, rfl, trivial⟩) ((hS.perm (.swap _ _ _)).perm (.cons _ (.swap _ _ _))))
  ·refine stepW_ef _ rfl rfl hF hS rfl (ef_allocA ty37) ?_
   clear hF hS; rintro _ _ _ a w ⟨b_4_11, rfl, rfl, rfl⟩ hF hS
   refine ⟨⟨.inr (hS.keep sQ zQ), .inr (hS.keep sQ zQ), .inr (hS.keep sQ (zQ.k.n)), .inr (hS.keep sQ zQ), .inr (hS.keep sQ (zQ.k.n)), .inr (hS.keep sQ zQ), trivial⟩, ?_⟩
   refine goW_fork [2, 8] kQ rfl ⟨?_, ?_, trivial⟩
   ·refine stepW_ef _ rfl rfl hF hS rfl (ef_bslice0 ty22 ty3) ?_
    clear hF hS; rintro v_4_2 _ _ a w ⟨rfl, rfl⟩ hF hS
    refine ⟨⟨.inr (hS.keep sQ zQ), .inr (hS.keep sQ zQ), .inr (hS.keep sQ (zQ.k.n.n)), .inr (hS.keep sQ zQ), .inr (hS.keep sQ (zQ.k.n.n)), .inr (hS.keep sQ zQ), trivial⟩, ?_⟩
    refine goW_fork [5, 8] kQ rfl ⟨?_, ?_, trivial⟩
    ·refine stepW_ef _ rfl rfl hF hS rfl (ef_append ty22 ty3 0 rfl rfl rfl (src_slV ty22 hzD (.inr (by simp))) bQ rfl (by decide)) ?_
     clear hF hS; rintro v_4_5 _ _ a w ⟨rfl, rfl⟩ hF hS
     refine ⟨⟨.inr (hS.keep sQ zQ), .inr (hS.keep sQ zQ), iQ, iQ, .inr (hS.keep sQ (zQ.k.n.n)), .inr (hS.keep sQ zQ), trivial⟩, ?_⟩
     refine gQ 8 rfl rfl hF hS rfl (ef_bsliceA ty22 ty3 rfl rfl oQ (by decide) rfl rfl) ?_
     clear hF hS; rintro v_4_8 _ _ a w ⟨rfl, rfl⟩ hF hS
     refine ⟨⟨iQ, iQ, iQ, iQ, .inr (hS.keep sQ (zQ.k.n.n.n)), .inr (hS.keep sQ zQ), trivial⟩, ?_⟩
     refine gQ 9 rfl rfl hF hS rfl (ef_append ty22 ty3 1 rfl rfl rfl (src_row ty22 (k := 0) rfl oQ) bQ rfl (by decide)) ?_
     clear hF hS; rintro v_4_9 _ _ a w ⟨rfl, rfl⟩ hF hS
     refine ⟨⟨iQ, iQ, iQ, iQ, .inr (hS.keep sQ (zQ.k.n.n.n)), .inr (hS.keep sQ zQ), trivial⟩, ?_⟩
     refine goW_take 10 _ rfl kQ rfl hF (hS.keep sQ (zQ.k.n)) (q_buildS1 ty37 2 kQ rfl rfl (oc_cons rfl (oc_cons (row_one (hS.own _ (List.mem_of_getElem? (i := 1) rfl)).1) oc_nil)) rfl rfl) ?_
     clear hF; intro a hF
     refine gQ 12 rfl rfl hF hS rfl (ef_storeW ty37 2 rfl rfl rfl rfl bQ (oc_cons rfl (oc_cons (row_one (hS.own _ (List.mem_of_getElem? (i := 1) rfl)).1) oc_nil)) bQ) ?_
     clear hF hS; rintro _ _ _ a w ⟨rfl, rfl, rfl⟩ hF hS
     refine ⟨⟨iQ, iQ, iQ, iQ, iQ, iQ, iQ, trivial⟩, ?_⟩
     exact goW_done kQ (j5_mk v_4_2 v_4_5 v_4_8 v_4_9 b_4_11 (trivial) (hF.sub (L' := [(1, _), (2, _), (3, _), (11, _), (12, _), (13, _), (14, _)]) ⟨rfl, rfl, rfl, rfl, rfl, rfl, rfl, trivial⟩) ((hS.perm (.cons _ (.swap _ _ _))).perm (.swap _ _ _)))
    ·refine stepW_ef _ rfl rfl hF hS rfl (ef_bsliceA ty22 ty3 rfl rfl oQ (by decide) rfl rfl) ?_
     clear hF hS; rintro v_4_8 _ _ a w ⟨rfl, rfl⟩ hF hS
     refine ⟨⟨iQ, iQ, .inr (hS.keep sQ (zQ.k.n.n.n)), .inr (hS.keep sQ zQ), .inr (hS.keep sQ (zQ.k.n.n.n)), .inr (hS.keep sQ zQ), trivial⟩, ?_⟩
     refine gQ 5 rfl rfl hF hS rfl (ef_append ty22 ty3 1 rfl rfl rfl (src_slV ty22 hzD (.inr (by simp))) bQ rfl (by decide)) ?_
     clear hF hS; rintro v_4_5 _ _ a w ⟨rfl, rfl⟩ hF hS
     refine ⟨⟨iQ, iQ, iQ, iQ, .inr (hS.keep sQ (zQ.k.n.n.n)), .inr (hS.keep sQ zQ), trivial⟩, ?_⟩
     refine gQ 9 rfl rfl hF hS rfl (ef_append ty22 ty3 1 rfl rfl rfl (src_row ty22 (k := 0) rfl oQ) bQ rfl (by decide)) ?_
     clear hF hS; rintro v_4_9 _ _ a w ⟨rfl, rfl⟩ hF hS
     refine ⟨⟨iQ, iQ, iQ, iQ, .inr (hS.keep sQ (zQ.k.n.n.n)), .inr (hS.keep sQ zQ), trivial⟩, ?_⟩
     refine goW_take 10 _ rfl kQ rfl hF (hS.keep sQ (zQ.k.n)) (q_buildS1 ty37 2 kQ rfl rfl (oc_cons rfl (oc_cons (row_one (hS.own _ (List.mem_of_getElem? (i := 1) rfl)).1) oc_nil)) rfl rfl) ?_
     clear hF; intro a hF
     refine gQ 12 rfl rfl hF hS rfl (ef_storeW ty37 2 rfl rfl rfl rfl bQ (oc_cons rfl (oc_cons (row_one (hS.own _ (List.mem_of_getElem? (i := 1) rfl)).1) oc_nil)) bQ) ?_
     clear hF hS; rintro _ _ _ a w ⟨rfl, rfl, rfl⟩ hF hS
     refine ⟨⟨iQ, iQ, iQ, iQ, iQ, iQ, iQ, trivial⟩, ?_⟩
     exact goW_done kQ (j5_mk v_4_2 v_4_5 v_4_8 v_4_9 b_4_11 (trivial) (hF.sub (L' := [(1, _), (2, _), (3, _), (11, _), (12, _), (13, _), (14, _)]) ⟨rfl, rfl, rfl, rfl, rfl, rfl, rfl, trivial⟩) ((hS.perm (.cons _ (.swap _ _ _))).perm (.swap _ _ _)))
   ·refine stepW_ef _ rfl rfl hF hS rfl (ef_bsliceA ty22 ty3 rfl rfl oQ (by decide) rfl rfl) ?_
    clear hF hS; rintro v_4_8 _ _ a w ⟨rfl, rfl⟩ hF hS
    refine ⟨⟨iQ, iQ, .inr (hS.keep sQ (zQ.k.n.n)), .inr (hS.keep sQ zQ), .inr (hS.keep sQ (zQ.k.n.n)), .inr (hS.keep sQ zQ), trivial⟩, ?_⟩
    refine gQ 2 rfl rfl hF hS rfl (ef_bslice0 ty22 ty3) ?_
    clear hF hS; rintro v_4_2 _ _ a w ⟨rfl, rfl⟩ hF hS
    refine ⟨⟨iQ, iQ, .inr (hS.keep sQ (zQ.k.n.n.n)), .inr (hS.keep sQ zQ), .inr (hS.keep sQ (zQ.k.n.n.n)), .inr (hS.keep sQ zQ), trivial⟩, ?_⟩
    refine gQ 5 rfl rfl hF hS rfl (ef_append ty22 ty3 0 rfl rfl rfl (src_slV ty22 hzD (.inr (by simp))) bQ rfl (by decide)) ?_
    clear hF hS; rintro v_4_5 _ _ a w ⟨rfl, rfl⟩ hF hS
    refine ⟨⟨iQ, iQ, iQ, iQ, .inr (hS.keep sQ (zQ.k.n.n.n)), .inr (hS.keep sQ zQ), trivial⟩, ?_⟩
    refine gQ 9 rfl rfl hF hS rfl (ef_append ty22 ty3 0 rfl rfl rfl (src_row ty22 (k := 1) rfl oQ) bQ rfl (by decide)) ?_
    clear hF hS; rintro v_4_9 _ _ a w ⟨rfl, rfl⟩ hF hS
    refine ⟨⟨iQ, iQ, iQ, iQ, .inr (hS.keep sQ (zQ.k.n.n.n)), .inr (hS.keep sQ zQ), trivial⟩, ?_⟩
    refine goW_take 10 _ rfl kQ rfl hF (hS.keep sQ (zQ.k)) (q_buildS1 ty37 2 kQ rfl rfl (oc_cons rfl (oc_cons (row_one (hS.own _ (List.mem_of_getElem? (i := 0) rfl)).1) oc_nil)) rfl rfl) ?_
    clear hF; intro a hF
    refine gQ 12 rfl rfl hF hS rfl (ef_storeW ty37 2 rfl rfl rfl rfl bQ (oc_cons rfl (oc_cons (row_one (hS.own _ (List.mem_of_getElem? (i := 0) rfl)).1) oc_nil)) bQ) ?_
    clear hF hS; rintro _ _ _ a w ⟨rfl, rfl, rfl⟩ hF hS
    refine ⟨⟨iQ, iQ, iQ, iQ, iQ, iQ, iQ, trivial⟩, ?_⟩
    exact goW_done kQ (j5_mk v_4_2 v_4_5 v_4_8 v_4_9 b_4_11 (trivial) (hF.sub (L' := [(1, _), (2, _), (3, _), (11, _), (12, _), (13, _), (14, _)]) ⟨rfl, rfl, rfl, rfl, rfl, rfl, rfl, trivial⟩) (((hS.perm (.cons _ (.swap _ _ _))).perm (.swap _ _ _)).perm (.cons _ (.swap _ _ _))))
 rintro a w ⟨v_4_2, v_4_5, v_4_8, v_4_9, b_4_11, -, hF, hS⟩
 (try dsimp only at hF); (try dsimp only at hS)
 replace hS := hS.perm (.cons _ (.swap _ _ _))
 replace hS := hS.perm (.swap _ _ _)
 replace hS := hS.rowEq (m' := (mdC ++ [IntKind.i64.wrap (b - 2)]).length) (cs' := (mdC ++ [IntKind.i64.wrap (b - 2)]).map vi) (by simp) (by simp)
 obtain ⟨zR, hzR, hS⟩ := St.freezeV (h0 := fun _ => rfl) (f := vi) (p := fun x => -9223372036854775808 ≤ x ∧ x ≤ 9223372036854775807) (xs := (mdC ++ [IntKind.i64.wrap (b - 2)])) hS rfl (by simp; omega) (Gp.rg_app (sl_rng hzD) (Gp.wrap_rng _))
 replace hS : St _ [_, _, _, _] [_, _, _, _, _] _ := hS
 refine hK5 _ _ ?_
 clear hK5
 obtain ⟨hs0, hhs0, hS⟩ : ∃ h, h = _ ∧ St _ _ h _ := ⟨_, rfl, hS⟩
 refine wp_cutz (γ := Int × Value × List Int × PH) (fun (gg : Int × Value × List Int × PH) => match gg with | (Bo, vo, Co, zo) => [zo, zR, zD, zO, zF]) (fun (gg : Int × Value × List Int × PH) => match gg with | (Bo, vo, Co, zo) => []) [(1, _), (11, _), (12, _), (13, _), (14, _)] (fun (gg : Int × Value × List Int × PH) => match gg with | (Bo, vo, Co, zo) => (hs0.set 0 (.blk b_4_11 37 [vi Bo, vo]))) (fun (gg : Int × Value × List Int × PH) => match gg with | (Bo, vo, Co, zo) => Sl encI zo vo Co ∧ (Co.length ≤ 9 ∧ (-9223372036854775808 ≤ Bo ∧ Bo ≤ 9223372036854775807))) (hF.sub ⟨rfl, rfl, rfl, rfl, rfl, trivial⟩) hS ?_ ?_
 ·subst hhs0
  refine wp_seq_k ?_; intro K6 hK6
  refine reg hF hS (sq rfl (q_move rfl) <|
    sq rfl (q_remi' rfl rfl (by decide)) <|
    sq rfl (q_eqi rfl rfl) <|
    sq_end) ?_
  clear hF hS; intro a w hF hS
  refine hK6 _ _ ?_
  clear hK6
  refine wp_ifd hF rfl (fun hc1 => ?_) (fun hc1 => ?_)
  ·refine regl ?_
   refine wpl_sq hF hS (sq rfl (q_move rfl) <|
     sq rfl (q_subi_w rfl rfl) <|
     sq rfl (q_fieldAddr ty37 rfl rfl (s' := 0) kQ) <|
     sq rfl (q_ld_blk1 ty22 2 rfl rfl rfl rfl) <|
     sq rfl (q_buildS1 ty37 2 kQ rfl rfl (oc_cons rfl (oc_cons (sl_one' hzD) oc_nil)) rfl rfl) <|
     sq_end) ?_
   clear hF hS; intro a w hF hS
   refine wpl_ef hF hS rfl (ef_storeW ty37 0 rfl rfl rfl rfl bQ (oc_cons rfl (oc_cons (sl_one' hzD) oc_nil)) bQ) ?_
   clear hF hS; rintro _ _ _ a w ⟨rfl, rfl, rfl⟩ hF hS
   replace hS : St _ [_, _, _, _] [_, _, _, _, _] _ := hS
   refine wpList_nil ?_
   replace hS := hS.dupz (z := zD) (by simp)
   refine ⟨(IntKind.i64.wrap (b - 1), vD, mdC, zD), ?_, hF.sub ⟨rfl, rfl, rfl, rfl, rfl, trivial⟩, ?_⟩
   ·exact ⟨hzD, by omega, Gp.wrap_rng _⟩
   ·exact hS
  ·refine wp_skip ?_
   replace hS := hS.dupz (z := zR) (by simp)
   refine ⟨(mdB, v_4_9, (mdC ++ [IntKind.i64.wrap (b - 2)]), zR), ?_, hF.sub ⟨rfl, rfl, rfl, rfl, rfl, trivial⟩, ?_⟩
   ·exact ⟨hzR, by simp; omega, hmR⟩
   ·exact hS
 clear hF hS; rintro ⟨Bo, vo, Co, zo⟩ a w hfact hF hS
 subst hhs0; (try dsimp only at hfact); (try dsimp only at hF); (try dsimp only at hS)
 obtain ⟨hzo, hzo2⟩ := hfact
 replace hS : St _ [_, _, _, _, _] [_, _, _, _, _] _ := hS
 refine wp_seq_k ?_; intro K7 hK7
 refine regl ?_
 refine wpl_sq hF hS (sq rfl (q_ld_blkW ty33 4 rfl rfl bQ rfl) <|
   sq rfl (q_move rfl) <|
   sq_end) ?_
 clear hF hS; intro a w hF hS
 refine wpl_ef hF hS rfl (ef_call fn29 rfl (fun w hS => marks_ct _ _ _ _ _ _ _ (by omega) w (sl_one' hnF) (Sl.mono (hS.le (.inr (by simp))) hsF) (Sl.mono (hS.le (.inr (by simp))) hbF) (Sl.mono (hS.le zin0) hm))) ?_
 clear hF hS; rintro vMk _ _ a w ⟨_, _, rfl, rfl, ⟨M, zE, hzE, hML, rfl, rfl⟩⟩ hF hS
 replace hS : St _ [_, _, _, _, _, _] [_, _, _, _, _] _ := hS
 refine wpl_sq hF hS (sq rfl (q_assign rfl) <|
   sq_end) ?_
 clear hF hS; intro a w hF hS
 refine wpList_nil ?_
 refine hK7 _ _ ?_
 clear hK7
 refine wp_seq_k ?_; intro K8 hK8
 refine reg hF hS (sq rfl (q_move rfl) <|
   sq rfl (q_move rfl) <|
   sq rfl (q_len_sl ty29 hzE rfl) <|
   sq rfl (q_subi rfl rfl (by omega)) <|
   sq rfl (q_max rfl rfl) <|
   sq rfl (q_slsl_hi ty29 ty4 hzE rfl rfl (by omega)) <|
   sq rfl (q_assign rfl) <|
   sq_end) ?_
 clear hF hS; intro a w hF hS
 refine hK8 _ _ ?_
 clear hK8
 refine wp_seq_k ?_; intro K9 hK9
 revert hS; revert hF; apply regJ (J := J10 (α0 := Value) (α1 := Value) (α2 := Int) (α3 := List Int) (α4 := PH) (α5 := Value) (α6 := Value) (α7 := List Bool) (α8 := PH) (α9 := Value) 76 _ _ _ _ _) #[false, false, false, false, false, false, false, false, false, false, false, false, false, false, false, false, false, false, false, false, false, false, false, false, false] 25 mixed rfl rfl
 ·intro w hF hS
  refine goW_take 0 _ rfl kQ rfl hF (hS.keep sQ (sQ.n.n.n.n)) (q_ld_blkW ty33 0 rfl rfl bQ rfl) ?_
  clear hF; intro a hF
  refine goW_take 1 _ rfl kQ rfl hF (hS.keep sQ (sQ.n.n.n.n)) (q_ld_blkW ty33 0 rfl rfl bQ rfl) ?_
  clear hF; intro a hF
  refine goW_take 2 _ rfl kQ rfl hF (hS.keep sQ (zQ.k.n.n.n)) (q_ld_blkW ty33 0 rfl rfl bQ rfl) ?_
  clear hF; intro a hF
  refine goW_take 3 _ rfl kQ rfl hF (hS.keep sQ (sQ.n.n.n.n)) (q_ld_blkW ty33 0 rfl rfl bQ rfl) ?_
  clear hF; intro a hF
  refine goW_take 4 _ rfl kQ rfl hF (hS.keep sQ (zQ.k.n.n.n)) (q_ld_blkW ty33 0 rfl rfl bQ rfl) ?_
  clear hF; intro a hF
  refine goW_take 6 _ rfl kQ rfl hF (hS.keep sQ (zQ.k.n.n)) (q_ld_blkW ty37 0 rfl rfl bQ rfl) ?_
  clear hF; intro a hF
  refine goW_take 7 _ rfl kQ rfl hF (hS.keep sQ (zQ.k)) (q_ld_blkW ty37 0 rfl rfl bQ rfl) ?_
  clear hF; intro a hF
  refine goW_take 8 _ rfl kQ rfl hF (hS.keep sQ (zQ.k.n.n)) (q_ld_blkW ty37 0 rfl rfl bQ rfl) ?_
  clear hF; intro a hF
  refine goW_take 9 _ rfl kQ rfl hF (hS.keep sQ (zQ.k.n.n)) (q_ld_blkW ty37 0 rfl rfl bQ rfl) ?_
  clear hF; intro a hF
  refine goW_take 10 _ rfl kQ rfl hF (hS.keep sQ (zQ.k.n.n.n)) (q_ld_blkW ty33 0 rfl rfl bQ rfl) ?_
  clear hF; intro a hF
  refine goW_take 11 _ rfl kQ rfl hF (hS.keep sQ zQ) (q_move rfl) ?_
  clear hF; intro a hF
  refine goW_take 14 _ rfl kQ rfl hF (hS.keep sQ zQ) (q_move rfl) ?_
  clear hF; intro a hF
  refine goW_take 15 _ rfl kQ rfl hF (hS.keep sQ zQ) (q_move rfl) ?_
  clear hF; intro a hF
  refine goW_take 16 _ rfl kQ rfl hF (hS.keep sQ zQ) (q_move rfl) ?_
  clear hF; intro a hF
  refine goW_take 17 _ rfl kQ rfl hF (hS.keep sQ zQ) (q_move rfl) ?_
  clear hF; intro a hF
  refine goW_take 18 _ rfl kQ rfl hF (hS.keep sQ (zQ.k.n.n.n)) (q_ld_blkW ty33 0 rfl rfl bQ rfl) ?_
  clear hF; intro a hF
  refine goW_take 19 _ rfl kQ rfl hF (hS.keep sQ zQ) (q_move rfl) ?_
  clear hF; intro a hF
  refine goW_fork [5, 12] kQ rfl ⟨?_, ?_, trivial⟩
  ·refine stepW_ef _ rfl rfl hF hS rfl (ef_bsliceC ty23 ty33 [[_, _, _], [_, _, _], [_, _, _], [_, _, _], [_, _, _]] rfl rfl (by simp) (oc2_cons (oc_cons (sl_one' hnF) (oc_cons (sl_one' hsF) (oc_cons (sl_one' hbF) oc_nil))) (oc2_cons (oc_cons (sl_one' hnF) (oc_cons (sl_one' hsF) (oc_cons (sl_one' hbF) oc_nil))) (oc2_cons (oc_cons (sl_one' hnO) (oc_cons (sl_one' hsO) (oc_cons (sl_one' hbO) oc_nil))) (oc2_cons (oc_cons (sl_one' hnF) (oc_cons (sl_one' hsF) (oc_cons (sl_one' hbF) oc_nil))) (oc2_cons (oc_cons (sl_one' hnO) (oc_cons (sl_one' hsO) (oc_cons (sl_one' hbO) oc_nil))) oc2_nil))))) (by decide) rfl rfl) ?_
   clear hF hS; rintro v_9_5 _ _ a w ⟨rfl, rfl⟩ hF hS
   refine ⟨⟨.inr (hS.keep sQ zQ), .inr (hS.keep sQ (zQ.k.n.n.n.n)), .inr (hS.keep sQ zQ), .inr (hS.keep sQ zQ), .inr (hS.keep sQ zQ), .inr (hS.keep sQ zQ), .inr (hS.keep sQ zQ), .inr (hS.keep sQ (zQ.k.n.n.n.n)), .inr (hS.keep sQ (zQ.k.n.n.n)), .inr (hS.keep sQ (zQ.k.n.n.n)), .inr (hS.keep sQ (zQ.k.n)), .inr (hS.keep sQ (zQ.k.n.n.n)), iQ, iQ, iQ, iQ, iQ, trivial⟩, ?_⟩
   refine gQ 12 rfl rfl hF hS rfl (ef_call fn28 rfl (fun w hS => made_ct _ _ _ _ _ _ _ (by omega) w (sl_one' hnO) (Sl.mono (hS.le (.inr (by simp))) hsO) (Sl.mono (hS.le (.inr (by simp))) hbO) (Sl.mono (hS.le zin0) hm))) ?_
   clear hF hS; rintro _ _ _ a w ⟨_, _, rfl, rfl, ⟨vD2, mdB2, mdC2, zD2, rfl, hzD2, hmL2, -, hmR2, rfl, rfl⟩⟩ hF hS
   refine ⟨⟨.inr (hS.keep (sQ.n) zQ), .inr (hS.keep (sQ.n) (zQ.k.n.n.n.n)), .inr (hS.keep (sQ.n) zQ), .inr (hS.keep (sQ.n) zQ), .inr (hS.keep (sQ.n) zQ), .inr (hS.keep (sQ.n) zQ), iQ, iQ, .inr (hS.keep (sQ.n) (zQ.k.n.n.n)), .inr (hS.keep (sQ.n) (zQ.k.n.n.n)), .inr (hS.keep (sQ.n) (zQ.k.n)), .inr (hS.keep (sQ.n) (zQ.k.n.n.n)), iQ, iQ, iQ, iQ, iQ, trivial⟩, ?_⟩
   refine goW_fork [13, 20] kQ rfl ⟨?_, ?_, trivial⟩
   ·refine stepW_ef _ rfl rfl hF hS rfl (ef_bsliceC ty24 ty37 [[_, _], [_, _], [_, _], [_, _], [_, _]] rfl rfl (by simp) (oc2_cons (oc_cons rfl (oc_cons (sl_one' hzD) oc_nil)) (oc2_cons (oc_cons rfl (oc_cons (sl_one' hzo) oc_nil)) (oc2_cons (oc_cons rfl (oc_cons (sl_one' hzD) oc_nil)) (oc2_cons (oc_cons rfl (oc_cons (sl_one' hzD) oc_nil)) (oc2_cons (oc_cons rfl (oc_cons (sl_one' hzD2) oc_nil)) oc2_nil))))) (by decide) rfl rfl) ?_
    clear hF hS; rintro v_9_13 _ _ a w ⟨rfl, rfl⟩ hF hS
    refine ⟨⟨.inr (hS.keep (sQ.n) zQ), .inr (hS.keep (sQ.n) (zQ.k.n.n.n.n.n)), .inr (hS.keep (sQ.n) zQ), .inr (hS.keep (sQ.n) zQ), .inr (hS.keep (sQ.n) zQ), .inr (hS.keep (sQ.n) zQ), iQ, iQ, iQ, iQ, iQ, iQ, iQ, iQ, iQ, iQ, iQ, trivial⟩, ?_⟩
    refine gQ 20 rfl rfl hF hS rfl (ef_call fn29 rfl (fun w hS => marks_ct _ _ _ _ _ _ _ (by omega) w (sl_one' hnO) (Sl.mono (hS.le (.inr (by simp))) hsO) (Sl.mono (hS.le (.inr (by simp))) hbO) (Sl.mono (hS.le zin0) hm))) ?_
    clear hF hS; rintro vMk _ _ a w ⟨_, _, rfl, rfl, ⟨M2, zE2, hzE2, hML2, rfl, rfl⟩⟩ hF hS
    refine ⟨⟨iQ, iQ, .inr (hS.keep (sQ.n.n) zQ), .inr (hS.keep (sQ.n.n) zQ), .inr (hS.keep (sQ.n.n) zQ), .inr (hS.keep (sQ.n.n) zQ), iQ, iQ, iQ, iQ, iQ, iQ, iQ, iQ, iQ, iQ, iQ, trivial⟩, ?_⟩
    refine goW_take 22 _ rfl kQ rfl hF (hS.keep sQ zQ) (q_assign rfl) ?_
    clear hF; intro a hF
    refine goW_take 23 _ rfl kQ rfl hF (hS.keep sQ zQ) (q_assign rfl) ?_
    clear hF; intro a hF
    refine gQ 21 rfl rfl hF hS rfl (ef_bsliceA ty25 ty29 rfl rfl (oc_cons (sl_one' hzE) (oc_cons (sl_one' hzE) (oc_cons (sl_one' hzE) (oc_cons (sl_one' (Sl.cut hzE (by omega))) (oc_cons (sl_one' hzE2) oc_nil))))) (by decide) rfl rfl) ?_
    clear hF hS; rintro v_9_21 _ _ a w ⟨rfl, rfl⟩ hF hS
    refine ⟨⟨.inr (hS.keep sQ zQ), .inr (hS.keep sQ zQ), iQ, iQ, iQ, iQ, iQ, iQ, iQ, iQ, iQ, iQ, iQ, iQ, iQ, iQ, iQ, iQ, iQ, trivial⟩, ?_⟩
    refine goW_take 24 _ rfl kQ rfl hF (hS.keep sQ zQ) (q_assign rfl) ?_
    clear hF; intro a hF
    exact goW_done kQ (j10_mk v_9_5 vD2 mdB2 mdC2 zD2 v_9_13 vMk M2 zE2 v_9_21 ((And.intro hzD2 (And.intro hmL2 (And.intro hmR2 (And.intro hzE2 (And.intro hML2 trivial)))))) (hF.sub (L' := [(8, _), (9, _), (10, _)]) ⟨rfl, rfl, rfl, trivial⟩) hS)
   ·refine stepW_ef _ rfl rfl hF hS rfl (ef_call fn29 rfl (fun w hS => marks_ct _ _ _ _ _ _ _ (by omega) w (sl_one' hnO) (Sl.mono (hS.le (.inr (by simp))) hsO) (Sl.mono (hS.le (.inr (by simp))) hbO) (Sl.mono (hS.le zin0) hm))) ?_
    clear hF hS; rintro vMk _ _ a w ⟨_, _, rfl, rfl, ⟨M2, zE2, hzE2, hML2, rfl, rfl⟩⟩ hF hS
    refine ⟨⟨iQ, iQ, .inr (hS.keep (sQ.n.n) zQ), .inr (hS.keep (sQ.n.n) zQ), .inr (hS.keep (sQ.n.n) zQ), .inr (hS.keep (sQ.n.n) zQ), iQ, iQ, .inr (hS.keep (sQ.n.n) (zQ.k.n.n.n)), .inr (hS.keep (sQ.n.n) (zQ.k.n.n.n)), .inr (hS.keep (sQ.n.n) (zQ.k.n)), .inr (hS.keep (sQ.n.n) (zQ.k.n.n.n)), iQ, iQ, iQ, iQ, iQ, trivial⟩, ?_⟩
    refine goW_take 22 _ rfl kQ rfl hF (hS.keep sQ zQ) (q_assign rfl) ?_
    clear hF; intro a hF
    refine goW_fork [13, 21] kQ rfl ⟨?_, ?_, trivial⟩
    ·refine stepW_ef _ rfl rfl hF hS rfl (ef_bsliceC ty24 ty37 [[_, _], [_, _], [_, _], [_, _], [_, _]] rfl rfl (by simp) (oc2_cons (oc_cons rfl (oc_cons (sl_one' hzD) oc_nil)) (oc2_cons (oc_cons rfl (oc_cons (sl_one' hzo) oc_nil)) (oc2_cons (oc_cons rfl (oc_cons (sl_one' hzD) oc_nil)) (oc2_cons (oc_cons rfl (oc_cons (sl_one' hzD) oc_nil)) (oc2_cons (oc_cons rfl (oc_cons (sl_one' hzD2) oc_nil)) oc2_nil))))) (by decide) rfl rfl) ?_
     clear hF hS; rintro v_9_13 _ _ a w ⟨rfl, rfl⟩ hF hS
     refine ⟨⟨.inr (hS.keep sQ zQ), iQ, iQ, .inr (hS.keep (sQ.n.n) zQ), .inr (hS.keep (sQ.n.n) zQ), .inr (hS.keep (sQ.n.n) zQ), .inr (hS.keep (sQ.n.n) zQ), iQ, iQ, iQ, iQ, iQ, iQ, iQ, iQ, iQ, iQ, iQ, trivial⟩, ?_⟩
     refine goW_take 23 _ rfl kQ rfl hF (hS.keep sQ zQ) (q_assign rfl) ?_
     clear hF; intro a hF
     refine gQ 21 rfl rfl hF hS rfl (ef_bsliceA ty25 ty29 rfl rfl (oc_cons (sl_one' hzE) (oc_cons (sl_one' hzE) (oc_cons (sl_one' hzE) (oc_cons (sl_one' (Sl.cut hzE (by omega))) (oc_cons (sl_one' hzE2) oc_nil))))) (by decide) rfl rfl) ?_
     clear hF hS; rintro v_9_21 _ _ a w ⟨rfl, rfl⟩ hF hS
     refine ⟨⟨.inr (hS.keep sQ zQ), .inr (hS.keep sQ zQ), iQ, iQ, iQ, iQ, iQ, iQ, iQ, iQ, iQ, iQ, iQ, iQ, iQ, iQ, iQ, iQ, iQ, trivial⟩, ?_⟩
     refine goW_take 24 _ rfl kQ rfl hF (hS.keep sQ zQ) (q_assign rfl) ?_
     clear hF; intro a hF
     exact goW_done kQ (j10_mk v_9_5 vD2 mdB2 mdC2 zD2 v_9_13 vMk M2 zE2 v_9_21 ((And.intro hzD2 (And.intro hmL2 (And.intro hmR2 (And.intro hzE2 (And.intro hML2 trivial)))))) (hF.sub (L' := [(8, _), (9, _), (10, _)]) ⟨rfl, rfl, rfl, trivial⟩) hS)
    ·refine stepW_ef _ rfl rfl hF hS rfl (ef_bsliceA ty25 ty29 rfl rfl (oc_cons (sl_one' hzE) (oc_cons (sl_one' hzE) (oc_cons (sl_one' hzE) (oc_cons (sl_one' (Sl.cut hzE (by omega))) (oc_cons (sl_one' hzE2) oc_nil))))) (by decide) rfl rfl) ?_
     clear hF hS; rintro v_9_21 _ _ a w ⟨rfl, rfl⟩ hF hS
     refine ⟨⟨.inr (hS.keep sQ zQ), iQ, iQ, iQ, iQ, iQ, iQ, iQ, iQ, .inr (hS.keep (sQ.n.n) (zQ.k.n.n.n.n)), .inr (hS.keep (sQ.n.n) (zQ.k.n.n.n.n)), .inr (hS.keep (sQ.n.n) (zQ.k.n.n)), .inr (hS.keep (sQ.n.n) (zQ.k.n.n.n.n)), iQ, iQ, iQ, iQ, iQ, trivial⟩, ?_⟩
     refine gQ 13 rfl rfl hF hS rfl (ef_bsliceC ty24 ty37 [[_, _], [_, _], [_, _], [_, _], [_, _]] rfl rfl (by simp) (oc2_cons (oc_cons rfl (oc_cons (sl_one' hzD) oc_nil)) (oc2_cons (oc_cons rfl (oc_cons (sl_one' hzo) oc_nil)) (oc2_cons (oc_cons rfl (oc_cons (sl_one' hzD) oc_nil)) (oc2_cons (oc_cons rfl (oc_cons (sl_one' hzD) oc_nil)) (oc2_cons (oc_cons rfl (oc_cons (sl_one' hzD2) oc_nil)) oc2_nil))))) (by decide) rfl rfl) ?_
     clear hF hS; rintro v_9_13 _ _ a w ⟨rfl, rfl⟩ hF hS
     refine ⟨⟨.inr (hS.keep sQ zQ), iQ, iQ, iQ, iQ, iQ, iQ, iQ, iQ, iQ, iQ, iQ, iQ, iQ, iQ, iQ, iQ, iQ, trivial⟩, ?_⟩
     refine goW_take 23 _ rfl kQ rfl hF (hS.keep sQ zQ) (q_assign rfl) ?_
     clear hF; intro a hF
     refine goW_take 24 _ rfl kQ rfl hF (hS.keep sQ zQ) (q_assign rfl) ?_
     clear hF; intro a hF
     exact goW_done kQ (j10_mk v_9_5 vD2 mdB2 mdC2 zD2 v_9_13 vMk M2 zE2 v_9_21 ((And.intro hzD2 (And.intro hmL2 (And.intro hmR2 (And.intro hzE2 (And.intro hML2 trivial)))))) (hF.sub (L' := [(8, _), (9, _), (10, _)]) ⟨rfl, rfl, rfl, trivial⟩) (hS.perm (.swap _ _ _)))
  ·refine stepW_ef _ rfl rfl hF hS rfl (ef_call fn28 rfl (fun w hS => made_ct _ _ _ _ _ _ _ (by omega) w (sl_one' hnO) (Sl.mono (hS.le (.inr (by simp))) hsO) (Sl.mono (hS.le (.inr (by simp))) hbO) (Sl.mono (hS.le zin0) hm))) ?_
   clear hF hS; rintro _ _ _ a w ⟨_, _, rfl, rfl, ⟨vD2, mdB2, mdC2, zD2, rfl, hzD2, hmL2, -, hmR2, rfl, rfl⟩⟩ hF hS
   refine ⟨⟨.inr (hS.keep (sQ.n) zQ), .inr (hS.keep (sQ.n) (zQ.k.n.n.n)), .inr (hS.keep (sQ.n) zQ), .inr (hS.keep (sQ.n) zQ), .inr (hS.keep (sQ.n) zQ), .inr (hS.keep (sQ.n) zQ), iQ, iQ, .inr (hS.keep (sQ.n) (zQ.k.n.n)), .inr (hS.keep (sQ.n) (zQ.k.n.n)), .inr (hS.keep (sQ.n) (zQ.k)), .inr (hS.keep (sQ.n) (zQ.k.n.n)), .inr (hS.keep (sQ.n) (zQ.k.n.n.n)), .inr (hS.keep (sQ.n) (sQ.n.n.n.n)), .inr (hS.keep (sQ.n) (zQ.k.n.n.n)), .inr (hS.keep (sQ.n) (sQ.n.n.n.n)), .inr (hS.keep (sQ.n) (sQ.n.n.n.n)), trivial⟩, ?_⟩
   refine goW_fork [5, 13, 20] kQ rfl ⟨?_, ?_, ?_, trivial⟩
   ·refine stepW_ef _ rfl rfl hF hS rfl (ef_bsliceC ty23 ty33 [[_, _, _], [_, _, _], [_, _, _], [_, _, _], [_, _, _]] rfl rfl (by simp) (oc2_cons (oc_cons (sl_one' hnF) (oc_cons (sl_one' hsF) (oc_cons (sl_one' hbF) oc_nil))) (oc2_cons (oc_cons (sl_one' hnF) (oc_cons (sl_one' hsF) (oc_cons (sl_one' hbF) oc_nil))) (oc2_cons (oc_cons (sl_one' hnO) (oc_cons (sl_one' hsO) (oc_cons (sl_one' hbO) oc_nil))) (oc2_cons (oc_cons (sl_one' hnF) (oc_cons (sl_one' hsF) (oc_cons (sl_one' hbF) oc_nil))) (oc2_cons (oc_cons (sl_one' hnO) (oc_cons (sl_one' hsO) (oc_cons (sl_one' hbO) oc_nil))) oc2_nil))))) (by decide) rfl rfl) ?_
    clear hF hS; rintro v_9_5 _ _ a w ⟨rfl, rfl⟩ hF hS
    refine ⟨⟨.inr (hS.keep (sQ.n) zQ), .inr (hS.keep (sQ.n) (zQ.k.n.n.n.n)), .inr (hS.keep (sQ.n) zQ), .inr (hS.keep (sQ.n) zQ), .inr (hS.keep (sQ.n) zQ), .inr (hS.keep (sQ.n) zQ), iQ, iQ, .inr (hS.keep (sQ.n) (zQ.k.n.n.n)), .inr (hS.keep (sQ.n) (zQ.k.n.n.n)), .inr (hS.keep (sQ.n) (zQ.k.n)), .inr (hS.keep (sQ.n) (zQ.k.n.n.n)), iQ, iQ, iQ, iQ, iQ, trivial⟩, ?_⟩
    refine goW_fork [13, 20] kQ rfl ⟨?_, ?_, trivial⟩
    ·refine stepW_ef _ rfl rfl hF hS rfl (ef_bsliceC ty24 ty37 [[_, _], [_, _], [_, _], [_, _], [_, _]] rfl rfl (by simp) (oc2_cons (oc_cons rfl (oc_cons (sl_one' hzD) oc_nil)) (oc2_cons (oc_cons rfl (oc_cons (sl_one' hzo) oc_nil)) (oc2_cons (oc_cons rfl (oc_cons (sl_one' hzD) oc_nil)) (oc2_cons (oc_cons rfl (oc_cons (sl_one' hzD) oc_nil)) (oc2_cons (oc_cons rfl (oc_cons (sl_one' hzD2) oc_nil)) oc2_nil))))) (by decide) rfl rfl) ?_
     clear hF hS; rintro v_9_13 _ _ a w ⟨rfl, rfl⟩ hF hS
     refine ⟨⟨.inr (hS.keep (sQ.n) zQ), .inr (hS.keep (sQ.n) (zQ.k.n.n.n.n.n)), .inr (hS.keep (sQ.n) zQ), .inr (hS.keep (sQ.n) zQ), .inr (hS.keep (sQ.n) zQ), .inr (hS.keep (sQ.n) zQ), iQ, iQ, iQ, iQ, iQ, iQ, iQ, iQ, iQ, iQ, iQ, trivial⟩, ?_⟩
     refine gQ 20 rfl rfl hF hS rfl (ef_call fn29 rfl (fun w hS => marks_ct _ _ _ _ _ _ _ (by omega) w (sl_one' hnO) (Sl.mono (hS.le (.inr (by simp))) hsO) (Sl.mono (hS.le (.inr (by simp))) hbO) (Sl.mono (hS.le zin0) hm))) ?_
     clear hF hS; rintro vMk _ _ a w ⟨_, _, rfl, rfl, ⟨M2, zE2, hzE2, hML2, rfl, rfl⟩⟩ hF hS
     refine ⟨⟨iQ, iQ, .inr (hS.keep (sQ.n.n) zQ), .inr (hS.keep (sQ.n.n) zQ), .inr (hS.keep (sQ.n.n) zQ), .inr (hS.keep (sQ.n.n) zQ), iQ, iQ, iQ, iQ, iQ, iQ, iQ, iQ, iQ, iQ, iQ, trivial⟩, ?_⟩
     refine goW_take 22 _ rfl kQ rfl hF (hS.keep sQ zQ) (q_assign rfl) ?_
     clear hF; intro a hF
     refine goW_take 23 _ rfl kQ rfl hF (hS.keep sQ zQ) (q_assign rfl) ?_
     clear hF; intro a hF
     refine gQ 21 rfl rfl hF hS rfl (ef_bsliceA ty25 ty29 rfl rfl (oc_cons (sl_one' hzE) (oc_cons (sl_one' hzE) (oc_cons (sl_one' hzE) (oc_cons (sl_one' (Sl.cut hzE (by omega))) (oc_cons (sl_one' hzE2) oc_nil))))) (by decide) rfl rfl) ?_
     clear hF hS; rintro v_9_21 _ _ a w ⟨rfl, rfl⟩ hF hS
     refine ⟨⟨.inr (hS.keep sQ zQ), .inr (hS.keep sQ zQ), iQ, iQ, iQ, iQ, iQ, iQ, iQ, iQ, iQ, iQ, iQ, iQ, iQ, iQ, iQ, iQ, iQ, trivial⟩, ?_⟩
     refine goW_take 24 _ rfl kQ rfl hF (hS.keep sQ zQ) (q_assign rfl) ?_
     clear hF; intro a hF
     exact goW_done kQ (j10_mk v_9_5 vD2 mdB2 mdC2 zD2 v_9_13 vMk M2 zE2 v_9_21 ((And.intro hzD2 (And.intro hmL2 (And.intro hmR2 (And.intro hzE2 (And.intro hML2 trivial)))))) (hF.sub (L' := [(8, _), (9, _), (10, _)]) ⟨rfl, rfl, rfl, trivial⟩) hS)
    ·refine stepW_ef _ rfl rfl hF hS rfl (ef_call fn29 rfl (fun w hS => marks_ct _ _ _ _ _ _ _ (by omega) w (sl_one' hnO) (Sl.mono (hS.le (.inr (by simp))) hsO) (Sl.mono (hS.le (.inr (by simp))) hbO) (Sl.mono (hS.le zin0) hm))) ?_
     clear hF hS; rintro vMk _ _ a w ⟨_, _, rfl, rfl, ⟨M2, zE2, hzE2, hML2, rfl, rfl⟩⟩ hF hS
     refine ⟨⟨iQ, iQ, .inr (hS.keep (sQ.n.n) zQ), .inr (hS.keep (sQ.n.n) zQ), .inr (hS.keep (sQ.n.n) zQ), .inr (hS.keep (sQ.n.n) zQ), iQ, iQ, .inr (hS.keep (sQ.n.n) (zQ.k.n.n.n)), .inr (hS.keep (sQ.n.n) (zQ.k.n.n.n)), .inr (hS.keep (sQ.n.n) (zQ.k.n)), .inr (hS.keep (sQ.n.n) (zQ.k.n.n.n)), iQ, iQ, iQ, iQ, iQ, trivial⟩, ?_⟩
     refine goW_take 22 _ rfl kQ rfl hF (hS.keep sQ zQ) (q_assign rfl) ?_
     clear hF; intro a hF
     refine goW_fork [13, 21] kQ rfl ⟨?_, ?_, trivial⟩
     ·refine stepW_ef _ rfl rfl hF hS rfl (ef_bsliceC ty24 ty37 [[_, _], [_, _], [_, _], [_, _], [_, _]] rfl rfl (by simp) (oc2_cons (oc_cons rfl (oc_cons (sl_one' hzD) oc_nil)) (oc2_cons (oc_cons rfl (oc_cons (sl_one' hzo) oc_nil)) (oc2_cons (oc_cons rfl (oc_cons (sl_one' hzD) oc_nil)) (oc2_cons (oc_cons rfl (oc_cons (sl_one' hzD) oc_nil)) (oc2_cons (oc_cons rfl (oc_cons (sl_one' hzD2) oc_nil)) oc2_nil))))) (by decide) rfl rfl) ?_
      clear hF hS; rintro v_9_13 _ _ a w ⟨rfl, rfl⟩ hF hS
      refine ⟨⟨.inr (hS.keep sQ zQ), iQ, iQ, .inr (hS.keep (sQ.n.n) zQ), .inr (hS.keep (sQ.n.n) zQ), .inr (hS.keep (sQ.n.n) zQ), .inr (hS.keep (sQ.n.n) zQ), iQ, iQ, iQ, iQ, iQ, iQ, iQ, iQ, iQ, iQ, iQ, trivial⟩, ?_⟩
      refine goW_take 23 _ rfl kQ rfl hF (hS.keep sQ zQ) (q_assign rfl) ?_
      clear hF; intro a hF
      refine gQ 21 rfl rfl hF hS rfl (ef_bsliceA ty25 ty29 rfl rfl (oc_cons (sl_one' hzE) (oc_cons (sl_one' hzE) (oc_cons (sl_one' hzE) (oc_cons (sl_one' (Sl.cut hzE (by omega))) (oc_cons (sl_one' hzE2) oc_nil))))) (by decide) rfl rfl) ?_
      clear hF hS; rintro v_9_21 _ _ a w ⟨rfl, rfl⟩ hF hS
      refine ⟨⟨.inr (hS.keep sQ zQ), .inr (hS.keep sQ zQ), iQ, iQ, iQ, iQ, iQ, iQ, iQ, iQ, iQ, iQ, iQ, iQ, iQ, iQ, iQ, iQ, iQ, trivial⟩, ?_⟩
      refine goW_take 24 _ rfl kQ rfl hF (hS.keep sQ zQ) (q_assign rfl) ?_
      clear hF; intro a hF
      exact goW_done kQ (j10_mk v_9_5 vD2 mdB2 mdC2 zD2 v_9_13 vMk M2 zE2 v_9_21 ((And.intro hzD2 (And.intro hmL2 (And.intro hmR2 (And.intro hzE2 (And.intro hML2 trivial)))))) (hF.sub (L' := [(8, _), (9, _), (10, _)]) ⟨rfl, rfl, rfl, trivial⟩) hS)
     ·refine stepW_ef _ rfl rfl hF hS rfl (ef_bsliceA ty25 ty29 rfl rfl (oc_cons (sl_one' hzE) (oc_cons (sl_one' hzE) (oc_cons (sl_one' hzE) (oc_cons (sl_one' (Sl.cut hzE (by omega))) (oc_cons (sl_one' hzE2) oc_nil))))) (by decide) rfl rfl) ?_
      clear hF hS; rintro v_9_21 _ _ a w ⟨rfl, rfl⟩ hF hS
      refine ⟨⟨.inr (hS.keep sQ zQ), iQ, iQ, iQ, iQ, iQ, iQ, iQ, iQ, .inr (hS.keep (sQ.n.n) (zQ.k.n.n.n.n)), .inr (hS.keep (sQ.n.n) (zQ.k.n.n.n.n)), .inr (hS.keep (sQ.n.n) (zQ.k.n.n)), .inr (hS.keep (sQ.n.n) (zQ.k.n.n.n.n)), iQ, iQ, iQ, iQ, iQ, trivial⟩, ?_⟩
      refine gQ 13 rfl rfl hF hS rfl (ef_bsliceC ty24 ty37 [[_, _], [_, _], [_, _], [_, _], [_, _]] rfl rfl (by simp) (oc2_cons (oc_cons rfl (oc_cons (sl_one' hzD) oc_nil)) (oc2_cons (oc_cons rfl (oc_cons (sl_one' hzo) oc_nil)) (oc2_cons (oc_cons rfl (oc_cons (sl_one' hzD) oc_nil)) (oc2_cons (oc_cons rfl (oc_cons (sl_one' hzD) oc_nil)) (oc2_cons (oc_cons rfl (oc_cons (sl_one' hzD2) oc_nil)) oc2_nil))))) (by decide) rfl rfl) ?_
      clear hF hS; rintro v_9_13 _ _ a w ⟨rfl, rfl⟩ hF hS
      refine ⟨⟨.inr (hS.keep sQ zQ), iQ, iQ, iQ, iQ, iQ, iQ, iQ, iQ, iQ, iQ, iQ, iQ, iQ, iQ, iQ, iQ, iQ, trivial⟩, ?_⟩
      refine goW_take 23 _ rfl kQ rfl hF (hS.keep sQ zQ) (q_assign rfl) ?_
      clear hF; intro a hF
      refine goW_take 24 _ rfl kQ rfl hF (hS.keep sQ zQ) (q_assign rfl) ?_
      clear hF; intro a hF
      exact goW_done kQ (j10_mk v_9_5 vD2 mdB2 mdC2 zD2 v_9_13 vMk M2 zE2 v_9_21 ((And.intro hzD2 (And.intro hmL2 (And.intro hmR2 (And.intro hzE2 (And.intro hML2 trivial)))))) (hF.sub (L' := [(8, _), (9, _), (10, _)]) ⟨rfl, rfl, rfl, trivial⟩) (hS.perm (.swap _ _ _)))
   ·refine stepW_ef _ rfl rfl hF hS rfl (ef_bsliceC ty24 ty37 [[_, _], [_, _], [_, _], [_, _], [_, _]] rfl rfl (by simp) (oc2_cons (oc_cons rfl (oc_cons (sl_one' hzD) oc_nil)) (oc2_cons (oc_cons rfl (oc_cons (sl_one' hzo) oc_nil)) (oc2_cons (oc_cons rfl (oc_cons (sl_one' hzD) oc_nil)) (oc2_cons (oc_cons rfl (oc_cons (sl_one' hzD) oc_nil)) (oc2_cons (oc_cons rfl (oc_cons (sl_one' hzD2) oc_nil)) oc2_nil))))) (by decide) rfl rfl) ?_
    clear hF hS; rintro v_9_13 _ _ a w ⟨rfl, rfl⟩ hF hS
    refine ⟨⟨.inr (hS.keep (sQ.n) zQ), .inr (hS.keep (sQ.n) (zQ.k.n.n.n.n)), .inr (hS.keep (sQ.n) zQ), .inr (hS.keep (sQ.n) zQ), .inr (hS.keep (sQ.n) zQ), .inr (hS.keep (sQ.n) zQ), iQ, iQ, iQ, iQ, iQ, iQ, .inr (hS.keep (sQ.n) (zQ.k.n.n.n.n)), .inr (hS.keep (sQ.n) (sQ.n.n.n.n.n)), .inr (hS.keep (sQ.n) (zQ.k.n.n.n.n)), .inr (hS.keep (sQ.n) (sQ.n.n.n.n.n)), .inr (hS.keep (sQ.n) (sQ.n.n.n.n.n)), trivial⟩, ?_⟩
    refine goW_fork [5, 20] kQ rfl ⟨?_, ?_, trivial⟩
    ·refine stepW_ef _ rfl rfl hF hS rfl (ef_bsliceC ty23 ty33 [[_, _, _], [_, _, _], [_, _, _], [_, _, _], [_, _, _]] rfl rfl (by simp) (oc2_cons (oc_cons (sl_one' hnF) (oc_cons (sl_one' hsF) (oc_cons (sl_one' hbF) oc_nil))) (oc2_cons (oc_cons (sl_one' hnF) (oc_cons (sl_one' hsF) (oc_cons (sl_one' hbF) oc_nil))) (oc2_cons (oc_cons (sl_one' hnO) (oc_cons (sl_one' hsO) (oc_cons (sl_one' hbO) oc_nil))) (oc2_cons (oc_cons (sl_one' hnF) (oc_cons (sl_one' hsF) (oc_cons (sl_one' hbF) oc_nil))) (oc2_cons (oc_cons (sl_one' hnO) (oc_cons (sl_one' hsO) (oc_cons (sl_one' hbO) oc_nil))) oc2_nil))))) (by decide) rfl rfl) ?_
     clear hF hS; rintro v_9_5 _ _ a w ⟨rfl, rfl⟩ hF hS
     refine ⟨⟨.inr (hS.keep (sQ.n) zQ), .inr (hS.keep (sQ.n) (zQ.k.n.n.n.n.n)), .inr (hS.keep (sQ.n) zQ), .inr (hS.keep (sQ.n) zQ), .inr (hS.keep (sQ.n) zQ), .inr (hS.keep (sQ.n) zQ), iQ, iQ, iQ, iQ, iQ, iQ, iQ, iQ, iQ, iQ, iQ, trivial⟩, ?_⟩
     refine gQ 20 rfl rfl hF hS rfl (ef_call fn29 rfl (fun w hS => marks_ct _ _ _ _ _ _ _ (by omega) w (sl_one' hnO) (Sl.mono (hS.le (.inr (by simp))) hsO) (Sl.mono (hS.le (.inr (by simp))) hbO) (Sl.mono (hS.le zin0) hm))) ?_
     clear hF hS; rintro vMk _ _ a w ⟨_, _, rfl, rfl, ⟨M2, zE2, hzE2, hML2, rfl, rfl⟩⟩ hF hS
     refine ⟨⟨iQ, iQ, .inr (hS.keep (sQ.n.n) zQ), .inr (hS.keep (sQ.n.n) zQ), .inr (hS.keep (sQ.n.n) zQ), .inr (hS.keep (sQ.n.n) zQ), iQ, iQ, iQ, iQ, iQ, iQ, iQ, iQ, iQ, iQ, iQ, trivial⟩, ?_⟩
     refine goW_take 22 _ rfl kQ rfl hF (hS.keep sQ zQ) (q_assign rfl) ?_
     clear hF; intro a hF
     refine goW_take 23 _ rfl kQ rfl hF (hS.keep sQ zQ) (q_assign rfl) ?_
     clear hF; intro a hF
     refine gQ 21 rfl rfl hF hS rfl (ef_bsliceA ty25 ty29 rfl rfl (oc_cons (sl_one' hzE) (oc_cons (sl_one' hzE) (oc_cons (sl_one' hzE) (oc_cons (sl_one' (Sl.cut hzE (by omega))) (oc_cons (sl_one' hzE2) oc_nil))))) (by decide) rfl rfl) ?_
     clear hF hS; rintro v_9_21 _ _ a w ⟨rfl, rfl⟩ hF hS
     refine ⟨⟨.inr (hS.keep sQ zQ), .inr (hS.keep sQ zQ), iQ, iQ, iQ, iQ, iQ, iQ, iQ, iQ, iQ, iQ, iQ, iQ, iQ, iQ, iQ, iQ, iQ, trivial⟩, ?_⟩
     refine goW_take 24 _ rfl kQ rfl hF (hS.keep sQ zQ) (q_assign rfl) ?_
     clear hF; intro a hF
     exact goW_done kQ (j10_mk v_9_5 vD2 mdB2 mdC2 zD2 v_9_13 vMk M2 zE2 v_9_21 ((And.intro hzD2 (And.intro hmL2 (And.intro hmR2 (And.intro hzE2 (And.intro hML2 trivial)))))) (hF.sub (L' := [(8, _), (9, _), (10, _)]) ⟨rfl, rfl, rfl, trivial⟩) (hS.perm (.cons _ (.swap _ _ _))))
    ·refine stepW_ef _ rfl rfl hF hS rfl (ef_call fn29 rfl (fun w hS => marks_ct _ _ _ _ _ _ _ (by omega) w (sl_one' hnO) (Sl.mono (hS.le (.inr (by simp))) hsO) (Sl.mono (hS.le (.inr (by simp))) hbO) (Sl.mono (hS.le zin0) hm))) ?_
     clear hF hS; rintro vMk _ _ a w ⟨_, _, rfl, rfl, ⟨M2, zE2, hzE2, hML2, rfl, rfl⟩⟩ hF hS
     refine ⟨⟨iQ, iQ, .inr (hS.keep (sQ.n.n) zQ), .inr (hS.keep (sQ.n.n) zQ), .inr (hS.keep (sQ.n.n) zQ), .inr (hS.keep (sQ.n.n) zQ), iQ, iQ, iQ, iQ, iQ, iQ, .inr (hS.keep (sQ.n.n) (zQ.k.n.n.n.n)), .inr (hS.keep (sQ.n.n) (sQ.n.n.n.n.n)), .inr (hS.keep (sQ.n.n) (zQ.k.n.n.n.n)), .inr (hS.keep (sQ.n.n) (sQ.n.n.n.n.n)), .inr (hS.keep (sQ.n.n) (sQ.n.n.n.n.n)), trivial⟩, ?_⟩
     refine goW_fork [5, 21] kQ rfl ⟨?_, ?_, trivial⟩
     ·refine stepW_ef _ rfl rfl hF hS rfl (ef_bsliceC ty23 ty33 [[_, _, _], [_, _, _], [_, _, _], [_, _, _], [_, _, _]] rfl rfl (by simp) (oc2_cons (oc_cons (sl_one' hnF) (oc_cons (sl_one' hsF) (oc_cons (sl_one' hbF) oc_nil))) (oc2_cons (oc_cons (sl_one' hnF) (oc_cons (sl_one' hsF) (oc_cons (sl_one' hbF) oc_nil))) (oc2_cons (oc_cons (sl_one' hnO) (oc_cons (sl_one' hsO) (oc_cons (sl_one' hbO) oc_nil))) (oc2_cons (oc_cons (sl_one' hnF) (oc_cons (sl_one' hsF) (oc_cons (sl_one' hbF) oc_nil))) (oc2_cons (oc_cons (sl_one' hnO) (oc_cons (sl_one' hsO) (oc_cons (sl_one' hbO) oc_nil))) oc2_nil))))) (by decide) rfl rfl) ?_
      clear hF hS; rintro v_9_5 _ _ a w ⟨rfl, rfl⟩ hF hS
      refine ⟨⟨iQ, iQ, .inr (hS.keep (sQ.n.n) zQ), .inr (hS.keep (sQ.n.n) zQ), .inr (hS.keep (sQ.n.n) zQ), .inr (hS.keep (sQ.n.n) zQ), iQ, iQ, iQ, iQ, iQ, iQ, iQ, iQ, iQ, iQ, iQ, trivial⟩, ?_⟩
      refine goW_take 22 _ rfl kQ rfl hF (hS.keep sQ zQ) (q_assign rfl) ?_
      clear hF; intro a hF
      refine goW_take 23 _ rfl kQ rfl hF (hS.keep sQ zQ) (q_assign rfl) ?_
      clear hF; intro a hF
      refine gQ 21 rfl rfl hF hS rfl (ef_bsliceA ty25 ty29 rfl rfl (oc_cons (sl_one' hzE) (oc_cons (sl_one' hzE) (oc_cons (sl_one' hzE) (oc_cons (sl_one' (Sl.cut hzE (by omega))) (oc_cons (sl_one' hzE2) oc_nil))))) (by decide) rfl rfl) ?_
      clear hF hS; rintro v_9_21 _ _ a w ⟨rfl, rfl⟩ hF hS
      refine ⟨⟨.inr (hS.keep sQ zQ), .inr (hS.keep sQ zQ), iQ, iQ, iQ, iQ, iQ, iQ, iQ, iQ, iQ, iQ, iQ, iQ, iQ, iQ, iQ, iQ, iQ, trivial⟩, ?_⟩
      refine goW_take 24 _ rfl kQ rfl hF (hS.keep sQ zQ) (q_assign rfl) ?_
      clear hF; intro a hF
      exact goW_done kQ (j10_mk v_9_5 vD2 mdB2 mdC2 zD2 v_9_13 vMk M2 zE2 v_9_21 ((And.intro hzD2 (And.intro hmL2 (And.intro hmR2 (And.intro hzE2 (And.intro hML2 trivial)))))) (hF.sub (L' := [(8, _), (9, _), (10, _)]) ⟨rfl, rfl, rfl, trivial⟩) (hS.perm (.cons _ (.swap _ _ _))))
     ·refine stepW_ef _ rfl rfl hF hS rfl (ef_bsliceA ty25 ty29 rfl rfl (oc_cons (sl_one' hzE) (oc_cons (sl_one' hzE) (oc_cons (sl_one' hzE) (oc_cons (sl_one' (Sl.cut hzE (by omega))) (oc_cons (sl_one' hzE2) oc_nil))))) (by decide) rfl rfl) ?_
      clear hF hS; rintro v_9_21 _ _ a w ⟨rfl, rfl⟩ hF hS
      refine ⟨⟨iQ, iQ, iQ, iQ, iQ, iQ, iQ, iQ, iQ, iQ, iQ, iQ, .inr (hS.keep (sQ.n.n) (zQ.k.n.n.n.n.n)), .inr (hS.keep (sQ.n.n) (sQ.n.n.n.n.n.n)), .inr (hS.keep (sQ.n.n) (zQ.k.n.n.n.n.n)), .inr (hS.keep (sQ.n.n) (sQ.n.n.n.n.n.n)), .inr (hS.keep (sQ.n.n) (sQ.n.n.n.n.n.n)), trivial⟩, ?_⟩
      refine gQ 5 rfl rfl hF hS rfl (ef_bsliceC ty23 ty33 [[_, _, _], [_, _, _], [_, _, _], [_, _, _], [_, _, _]] rfl rfl (by simp) (oc2_cons (oc_cons (sl_one' hnF) (oc_cons (sl_one' hsF) (oc_cons (sl_one' hbF) oc_nil))) (oc2_cons (oc_cons (sl_one' hnF) (oc_cons (sl_one' hsF) (oc_cons (sl_one' hbF) oc_nil))) (oc2_cons (oc_cons (sl_one' hnO) (oc_cons (sl_one' hsO) (oc_cons (sl_one' hbO) oc_nil))) (oc2_cons (oc_cons (sl_one' hnF) (oc_cons (sl_one' hsF) (oc_cons (sl_one' hbF) oc_nil))) (oc2_cons (oc_cons (sl_one' hnO) (oc_cons (sl_one' hsO) (oc_cons (sl_one' hbO) oc_nil))) oc2_nil))))) (by decide) rfl rfl) ?_
      clear hF hS; rintro v_9_5 _ _ a w ⟨rfl, rfl⟩ hF hS
      refine ⟨⟨iQ, iQ, iQ, iQ, iQ, iQ, iQ, iQ, iQ, iQ, iQ, iQ, iQ, iQ, iQ, iQ, iQ, trivial⟩, ?_⟩
      refine goW_take 22 _ rfl kQ rfl hF (hS.keep sQ zQ) (q_assign rfl) ?_
      clear hF; intro a hF
      refine goW_take 23 _ rfl kQ rfl hF (hS.keep sQ zQ) (q_assign rfl) ?_
      clear hF; intro a hF
      refine goW_take 24 _ rfl kQ rfl hF (hS.keep sQ zQ) (q_assign rfl) ?_
      clear hF; intro a hF
      exact goW_done kQ (j10_mk v_9_5 vD2 mdB2 mdC2 zD2 v_9_13 vMk M2 zE2 v_9_21 ((And.intro hzD2 (And.intro hmL2 (And.intro hmR2 (And.intro hzE2 (And.intro hML2 trivial)))))) (hF.sub (L' := [(8, _), (9, _), (10, _)]) ⟨rfl, rfl, rfl, trivial⟩) ((hS.perm (.swap _ _ _)).perm (.cons _ (.swap _ _ _))))
   ·refine stepW_ef _ rfl rfl hF hS rfl (ef_call fn29 rfl (fun w hS => marks_ct _ _ _ _ _ _ _ (by omega) w (sl_one' hnO) (Sl.mono (hS.le (.inr (by simp))) hsO) (Sl.mono (hS.le (.inr (by simp))) hbO) (Sl.mono (hS.le zin0) hm))) ?_
    clear hF hS; rintro vMk _ _ a w ⟨_, _, rfl, rfl, ⟨M2, zE2, hzE2, hML2, rfl, rfl⟩⟩ hF hS
    refine ⟨⟨iQ, iQ, .inr (hS.keep (sQ.n.n) zQ), .inr (hS.keep (sQ.n.n) zQ), .inr (hS.keep (sQ.n.n) zQ), .inr (hS.keep (sQ.n.n) zQ), iQ, iQ, .inr (hS.keep (sQ.n.n) (zQ.k.n.n)), .inr (hS.keep (sQ.n.n) (zQ.k.n.n)), .inr (hS.keep (sQ.n.n) (zQ.k)), .inr (hS.keep (sQ.n.n) (zQ.k.n.n)), .inr (hS.keep (sQ.n.n) (zQ.k.n.n.n)), .inr (hS.keep (sQ.n.n) (sQ.n.n.n.n)), .inr (hS.keep (sQ.n.n) (zQ.k.n.n.n)), .inr (hS.keep (sQ.n.n) (sQ.n.n.n.n)), .inr (hS.keep (sQ.n.n) (sQ.n.n.n.n)), trivial⟩, ?_⟩
    refine goW_fork [5, 13, 21] kQ rfl ⟨?_, ?_, ?_, trivial⟩
    ·refine stepW_ef _ rfl rfl hF hS rfl (ef_bsliceC ty23 ty33 [[_, _, _], [_, _, _], [_, _, _], [_, _, _], [_, _, _]] rfl rfl (by simp) (oc2_cons (oc_cons (sl_one' hnF) (oc_cons (sl_one' hsF) (oc_cons (sl_one' hbF) oc_nil))) (oc2_cons (oc_cons (sl_one' hnF) (oc_cons (sl_one' hsF) (oc_cons (sl_one' hbF) oc_nil))) (oc2_cons (oc_cons (sl_one' hnO) (oc_cons (sl_one' hsO) (oc_cons (sl_one' hbO) oc_nil))) (oc2_cons (oc_cons (sl_one' hnF) (oc_cons (sl_one' hsF) (oc_cons (sl_one' hbF) oc_nil))) (oc2_cons (oc_cons (sl_one' hnO) (oc_cons (sl_one' hsO) (oc_cons (sl_one' hbO) oc_nil))) oc2_nil))))) (by decide) rfl rfl) ?_
     clear hF hS; rintro v_9_5 _ _ a w ⟨rfl, rfl⟩ hF hS
     refine ⟨⟨iQ, iQ, .inr (hS.keep (sQ.n.n) zQ), .inr (hS.keep (sQ.n.n) zQ), .inr (hS.keep (sQ.n.n) zQ), .inr (hS.keep (sQ.n.n) zQ), iQ, iQ, .inr (hS.keep (sQ.n.n) (zQ.k.n.n.n)), .inr (hS.keep (sQ.n.n) (zQ.k.n.n.n)), .inr (hS.keep (sQ.n.n) (zQ.k.n)), .inr (hS.keep (sQ.n.n) (zQ.k.n.n.n)), iQ, iQ, iQ, iQ, iQ, trivial⟩, ?_⟩
     refine goW_take 22 _ rfl kQ rfl hF (hS.keep sQ zQ) (q_assign rfl) ?_
     clear hF; intro a hF
     refine goW_fork [13, 21] kQ rfl ⟨?_, ?_, trivial⟩
     ·refine stepW_ef _ rfl rfl hF hS rfl (ef_bsliceC ty24 ty37 [[_, _], [_, _], [_, _], [_, _], [_, _]] rfl rfl (by simp) (oc2_cons (oc_cons rfl (oc_cons (sl_one' hzD) oc_nil)) (oc2_cons (oc_cons rfl (oc_cons (sl_one' hzo) oc_nil)) (oc2_cons (oc_cons rfl (oc_cons (sl_one' hzD) oc_nil)) (oc2_cons (oc_cons rfl (oc_cons (sl_one' hzD) oc_nil)) (oc2_cons (oc_cons rfl (oc_cons (sl_one' hzD2) oc_nil)) oc2_nil))))) (by decide) rfl rfl) ?_
      clear hF hS; rintro v_9_13 _ _ a w ⟨rfl, rfl⟩ hF hS
      refine ⟨⟨.inr (hS.keep sQ zQ), iQ, iQ, .inr (hS.keep (sQ.n.n) zQ), .inr (hS.keep (sQ.n.n) zQ), .inr (hS.keep (sQ.n.n) zQ), .inr (hS.keep (sQ.n.n) zQ), iQ, iQ, iQ, iQ, iQ, iQ, iQ, iQ, iQ, iQ, iQ, trivial⟩, ?_⟩
      refine goW_take 23 _ rfl kQ rfl hF (hS.keep sQ zQ) (q_assign rfl) ?_
      clear hF; intro a hF
      refine gQ 21 rfl rfl hF hS rfl (ef_bsliceA ty25 ty29 rfl rfl (oc_cons (sl_one' hzE) (oc_cons (sl_one' hzE) (oc_cons (sl_one' hzE) (oc_cons (sl_one' (Sl.cut hzE (by omega))) (oc_cons (sl_one' hzE2) oc_nil))))) (by decide) rfl rfl) ?_
      clear hF hS; rintro v_9_21 _ _ a w ⟨rfl, rfl⟩ hF hS
      refine ⟨⟨.inr (hS.keep sQ zQ), .inr (hS.keep sQ zQ), iQ, iQ, iQ, iQ, iQ, iQ, iQ, iQ, iQ, iQ, iQ, iQ, iQ, iQ, iQ, iQ, iQ, trivial⟩, ?_⟩
      refine goW_take 24 _ rfl kQ rfl hF (hS.keep sQ zQ) (q_assign rfl) ?_
      clear hF; intro a hF
      exact goW_done kQ (j10_mk v_9_5 vD2 mdB2 mdC2 zD2 v_9_13 vMk M2 zE2 v_9_21 ((And.intro hzD2 (And.intro hmL2 (And.intro hmR2 (And.intro hzE2 (And.intro hML2 trivial)))))) (hF.sub (L' := [(8, _), (9, _), (10, _)]) ⟨rfl, rfl, rfl, trivial⟩) hS)
     ·refine stepW_ef _ rfl rfl hF hS rfl (ef_bsliceA ty25 ty29 rfl rfl (oc_cons (sl_one' hzE) (oc_cons (sl_one' hzE) (oc_cons (sl_one' hzE) (oc_cons (sl_one' (Sl.cut hzE (by omega))) (oc_cons (sl_one' hzE2) oc_nil))))) (by decide) rfl rfl) ?_
      clear hF hS; rintro v_9_21 _ _ a w ⟨rfl, rfl⟩ hF hS
      refine ⟨⟨.inr (hS.keep sQ zQ), iQ, iQ, iQ, iQ, iQ, iQ, iQ, iQ, .inr (hS.keep (sQ.n.n) (zQ.k.n.n.n.n)), .inr (hS.keep (sQ.n.n) (zQ.k.n.n.n.n)), .inr (hS.keep (sQ.n.n) (zQ.k.n.n)), .inr (hS.keep (sQ.n.n) (zQ.k.n.n.n.n)), iQ, iQ, iQ, iQ, iQ, trivial⟩, ?_⟩
      refine gQ 13 rfl rfl hF hS rfl (ef_bsliceC ty24 ty37 [[_, _], [_, _], [_, _], [_, _], [_, _]] rfl rfl (by simp) (oc2_cons (oc_cons rfl (oc_cons (sl_one' hzD) oc_nil)) (oc2_cons (oc_cons rfl (oc_cons (sl_one' hzo) oc_nil)) (oc2_cons (oc_cons rfl (oc_cons (sl_one' hzD) oc_nil)) (oc2_cons (oc_cons rfl (oc_cons (sl_one' hzD) oc_nil)) (oc2_cons (oc_cons rfl (oc_cons (sl_one' hzD2) oc_nil)) oc2_nil))))) (by decide) rfl rfl) ?_
      clear hF hS; rintro v_9_13 _ _ a w ⟨rfl, rfl⟩ hF hS
      refine ⟨⟨.inr (hS.keep sQ zQ), iQ, iQ, iQ, iQ, iQ, iQ, iQ, iQ, iQ, iQ, iQ, iQ, iQ, iQ, iQ, iQ, iQ, trivial⟩, ?_⟩
      refine goW_take 23 _ rfl kQ rfl hF (hS.keep sQ zQ) (q_assign rfl) ?_
      clear hF; intro a hF
      refine goW_take 24 _ rfl kQ rfl hF (hS.keep sQ zQ) (q_assign rfl) ?_
      clear hF; intro a hF
      exact goW_done kQ (j10_mk v_9_5 vD2 mdB2 mdC2 zD2 v_9_13 vMk M2 zE2 v_9_21 ((And.intro hzD2 (And.intro hmL2 (And.intro hmR2 (And.intro hzE2 (And.intro hML2 trivial)))))) (hF.sub (L' := [(8, _), (9, _), (10, _)]) ⟨rfl, rfl, rfl, trivial⟩) (hS.perm (.swap _ _ _)))
    ·refine stepW_ef _ rfl rfl hF hS rfl (ef_bsliceC ty24 ty37 [[_, _], [_, _], [_, _], [_, _], [_, _]] rfl rfl (by simp) (oc2_cons (oc_cons rfl (oc_cons (sl_one' hzD) oc_nil)) (oc2_cons (oc_cons rfl (oc_cons (sl_one' hzo) oc_nil)) (oc2_cons (oc_cons rfl (oc_cons (sl_one' hzD) oc_nil)) (oc2_cons (oc_cons rfl (oc_cons (sl_one' hzD) oc_nil)) (oc2_cons (oc_cons rfl (oc_cons (sl_one' hzD2) oc_nil)) oc2_nil))))) (by decide) rfl rfl) ?_
     clear hF hS; rintro v_9_13 _ _ a w ⟨rfl, rfl⟩ hF hS
     refine ⟨⟨iQ, iQ, .inr (hS.keep (sQ.n.n) zQ), .inr (hS.keep (sQ.n.n) zQ), .inr (hS.keep (sQ.n.n) zQ), .inr (hS.keep (sQ.n.n) zQ), iQ, iQ, iQ, iQ, iQ, iQ, .inr (hS.keep (sQ.n.n) (zQ.k.n.n.n.n)), .inr (hS.keep (sQ.n.n) (sQ.n.n.n.n.n)), .inr (hS.keep (sQ.n.n) (zQ.k.n.n.n.n)), .inr (hS.keep (sQ.n.n) (sQ.n.n.n.n.n)), .inr (hS.keep (sQ.n.n) (sQ.n.n.n.n.n)), trivial⟩, ?_⟩
     refine goW_fork [5, 21] kQ rfl ⟨?_, ?_, trivial⟩
     ·refine stepW_ef _ rfl rfl hF hS rfl (ef_bsliceC ty23 ty33 [[_, _, _], [_, _, _], [_, _, _], [_, _, _], [_, _, _]] rfl rfl (by simp) (oc2_cons (oc_cons (sl_one' hnF) (oc_cons (sl_one' hsF) (oc_cons (sl_one' hbF) oc_nil))) (oc2_cons (oc_cons (sl_one' hnF) (oc_cons (sl_one' hsF) (oc_cons (sl_one' hbF) oc_nil))) (oc2_cons (oc_cons (sl_one' hnO) (oc_cons (sl_one' hsO) (oc_cons (sl_one' hbO) oc_nil))) (oc2_cons (oc_cons (sl_one' hnF) (oc_cons (sl_one' hsF) (oc_cons (sl_one' hbF) oc_nil))) (oc2_cons (oc_cons (sl_one' hnO) (oc_cons (sl_one' hsO) (oc_cons (sl_one' hbO) oc_nil))) oc2_nil))))) (by decide) rfl rfl) ?_
      clear hF hS; rintro v_9_5 _ _ a w ⟨rfl, rfl⟩ hF hS
      refine ⟨⟨iQ, iQ, .inr (hS.keep (sQ.n.n) zQ), .inr (hS.keep (sQ.n.n) zQ), .inr (hS.keep (sQ.n.n) zQ), .inr (hS.keep (sQ.n.n) zQ), iQ, iQ, iQ, iQ, iQ, iQ, iQ, iQ, iQ, iQ, iQ, trivial⟩, ?_⟩
      refine goW_take 22 _ rfl kQ rfl hF (hS.keep sQ zQ) (q_assign rfl) ?_
      clear hF; intro a hF
      refine goW_take 23 _ rfl kQ rfl hF (hS.keep sQ zQ) (q_assign rfl) ?_
      clear hF; intro a hF
      refine gQ 21 rfl rfl hF hS rfl (ef_bsliceA ty25 ty29 rfl rfl (oc_cons (sl_one' hzE) (oc_cons (sl_one' hzE) (oc_cons (sl_one' hzE) (oc_cons (sl_one' (Sl.cut hzE (by omega))) (oc_cons (sl_one' hzE2) oc_nil))))) (by decide) rfl rfl) ?_
      clear hF hS; rintro v_9_21 _ _ a w ⟨rfl, rfl⟩ hF hS
      refine ⟨⟨.inr (hS.keep sQ zQ), .inr (hS.keep sQ zQ), iQ, iQ, iQ, iQ, iQ, iQ, iQ, iQ, iQ, iQ, iQ, iQ, iQ, iQ, iQ, iQ, iQ, trivial⟩, ?_⟩
      refine goW_take 24 _ rfl kQ rfl hF (hS.keep sQ zQ) (q_assign rfl) ?_
      clear hF; intro a hF
      exact goW_done kQ (j10_mk v_9_5 vD2 mdB2 mdC2 zD2 v_9_13 vMk M2 zE2 v_9_21 ((And.intro hzD2 (And.intro hmL2 (And.intro hmR2 (And.intro hzE2 (And.intro hML2 trivial)))))) (hF.sub (L' := [(8, _), (9, _), (10, _)]) ⟨rfl, rfl, rfl, trivial⟩) (hS.perm (.cons _ (.swap _ _ _))))
     ·refine stepW_ef _ rfl rfl hF hS rfl (ef_bsliceA ty25 ty29 rfl rfl (oc_cons (sl_one' hzE) (oc_cons (sl_one' hzE) (oc_cons (sl_one' hzE) (oc_cons (sl_one' (Sl.cut hzE (by omega))) (oc_cons (sl_one' hzE2) oc_nil))))) (by decide) rfl rfl) ?_
      clear hF hS; rintro v_9_21 _ _ a w ⟨rfl, rfl⟩ hF hS
      refine ⟨⟨iQ, iQ, iQ, iQ, iQ, iQ, iQ, iQ, iQ, iQ, iQ, iQ, .inr (hS.keep (sQ.n.n) (zQ.k.n.n.n.n.n)), .inr (hS.keep (sQ.n.n) (sQ.n.n.n.n.n.n)), .inr (hS.keep (sQ.n.n) (zQ.k.n.n.n.n.n)), .inr (hS.keep (sQ.n.n) (sQ.n.n.n.n.n.n)), .inr (hS.keep (sQ.n.n) (sQ.n.n.n.n.n.n)), trivial⟩, ?_⟩
      refine gQ 5 rfl rfl hF hS rfl (ef_bsliceC ty23 ty33 [[_, _, _], [_, _, _], [_, _, _], [_, _, _], [_, _, _]] rfl rfl (by simp) (oc2_cons (oc_cons (sl_one' hnF) (oc_cons (sl_one' hsF) (oc_cons (sl_one' hbF) oc_nil))) (oc2_cons (oc_cons (sl_one' hnF) (oc_cons (sl_one' hsF) (oc_cons (sl_one' hbF) oc_nil))) (oc2_cons (oc_cons (sl_one' hnO) (oc_cons (sl_one' hsO) (oc_cons (sl_one' hbO) oc_nil))) (oc2_cons (oc_cons (sl_one' hnF) (oc_cons (sl_one' hsF) (oc_cons (sl_one' hbF) oc_nil))) (oc2_cons (oc_cons (sl_one' hnO) (oc_cons (sl_one' hsO) (oc_cons (sl_one' hbO) oc_nil))) oc2_nil))))) (by decide) rfl rfl) ?_
      clear hF hS; rintro v_9_5 _ _ a w ⟨rfl, rfl⟩ hF hS
      refine ⟨⟨iQ, iQ, iQ, iQ, iQ, iQ, iQ, iQ, iQ, iQ, iQ, iQ, iQ, iQ, iQ, iQ, iQ, trivial⟩, ?_⟩
      refine goW_take 22 _ rfl kQ rfl hF (hS.keep sQ zQ) (q_assign rfl) ?_
      clear hF; intro a hF
      refine goW_take 23 _ rfl kQ rfl hF (hS.keep sQ zQ) (q_assign rfl) ?_
      clear hF; intro a hF
      refine goW_take 24 _ rfl kQ rfl hF (hS.keep sQ zQ) (q_assign rfl) ?_
      clear hF; intro a hF
      exact goW_done kQ (j10_mk v_9_5 vD2 mdB2 mdC2 zD2 v_9_13 vMk M2 zE2 v_9_21 ((And.intro hzD2 (And.intro hmL2 (And.intro hmR2 (And.intro hzE2 (And.intro hML2 trivial)))))) (hF.sub (L' := [(8, _), (9, _), (10, _)]) ⟨rfl, rfl, rfl, trivial⟩) ((hS.perm (.swap _ _ _)).perm (.cons _ (.swap _ _ _))))
    ·refine stepW_ef _ rfl rfl hF hS rfl (ef_bsliceA ty25 ty29 rfl rfl (oc_cons (sl_one' hzE) (oc_cons (sl_one' hzE) (oc_cons (sl_one' hzE) (oc_cons (sl_one' (Sl.cut hzE (by omega))) (oc_cons (sl_one' hzE2) oc_nil))))) (by decide) rfl rfl) ?_
     clear hF hS; rintro v_9_21 _ _ a w ⟨rfl, rfl⟩ hF hS
     refine ⟨⟨iQ, iQ, iQ, iQ, iQ, iQ, iQ, iQ, .inr (hS.keep (sQ.n.n) (zQ.k.n.n.n)), .inr (hS.keep (sQ.n.n) (zQ.k.n.n.n)), .inr (hS.keep (sQ.n.n) (zQ.k.n)), .inr (hS.keep (sQ.n.n) (zQ.k.n.n.n)), .inr (hS.keep (sQ.n.n) (zQ.k.n.n.n.n)), .inr (hS.keep (sQ.n.n) (sQ.n.n.n.n.n)), .inr (hS.keep (sQ.n.n) (zQ.k.n.n.n.n)), .inr (hS.keep (sQ.n.n) (sQ.n.n.n.n.n)), .inr (hS.keep (sQ.n.n) (sQ.n.n.n.n.n)), trivial⟩, ?_⟩
     refine goW_fork [5, 13] kQ rfl ⟨?_, ?_, trivial⟩
     ·refine stepW_ef _ rfl rfl hF hS rfl (ef_bsliceC ty23 ty33 [[_, _, _], [_, _, _], [_, _, _], [_, _, _], [_, _, _]] rfl rfl (by simp) (oc2_cons (oc_cons (sl_one' hnF) (oc_cons (sl_one' hsF) (oc_cons (sl_one' hbF) oc_nil))) (oc2_cons (oc_cons (sl_one' hnF) (oc_cons (sl_one' hsF) (oc_cons (sl_one' hbF) oc_nil))) (oc2_cons (oc_cons (sl_one' hnO) (oc_cons (sl_one' hsO) (oc_cons (sl_one' hbO) oc_nil))) (oc2_cons (oc_cons (sl_one' hnF) (oc_cons (sl_one' hsF) (oc_cons (sl_one' hbF) oc_nil))) (oc2_cons (oc_cons (sl_one' hnO) (oc_cons (sl_one' hsO) (oc_cons (sl_one' hbO) oc_nil))) oc2_nil))))) (by decide) rfl rfl) ?_
      clear hF hS; rintro v_9_5 _ _ a w ⟨rfl, rfl⟩ hF hS
      refine ⟨⟨iQ, iQ, iQ, iQ, iQ, iQ, iQ, iQ, .inr (hS.keep (sQ.n.n) (zQ.k.n.n.n.n)), .inr (hS.keep (sQ.n.n) (zQ.k.n.n.n.n)), .inr (hS.keep (sQ.n.n) (zQ.k.n.n)), .inr (hS.keep (sQ.n.n) (zQ.k.n.n.n.n)), iQ, iQ, iQ, iQ, iQ, trivial⟩, ?_⟩
      refine goW_take 22 _ rfl kQ rfl hF (hS.keep sQ zQ) (q_assign rfl) ?_
      clear hF; intro a hF
      refine gQ 13 rfl rfl hF hS rfl (ef_bsliceC ty24 ty37 [[_, _], [_, _], [_, _], [_, _], [_, _]] rfl rfl (by simp) (oc2_cons (oc_cons rfl (oc_cons (sl_one' hzD) oc_nil)) (oc2_cons (oc_cons rfl (oc_cons (sl_one' hzo) oc_nil)) (oc2_cons (oc_cons rfl (oc_cons (sl_one' hzD) oc_nil)) (oc2_cons (oc_cons rfl (oc_cons (sl_one' hzD) oc_nil)) (oc2_cons (oc_cons rfl (oc_cons (sl_one' hzD2) oc_nil)) oc2_nil))))) (by decide) rfl rfl) ?_
      clear hF hS; rintro v_9_13 _ _ a w ⟨rfl, rfl⟩ hF hS
      refine ⟨⟨.inr (hS.keep sQ zQ), iQ, iQ, iQ, iQ, iQ, iQ, iQ, iQ, iQ, iQ, iQ, iQ, iQ, iQ, iQ, iQ, iQ, trivial⟩, ?_⟩
      refine goW_take 23 _ rfl kQ rfl hF (hS.keep sQ zQ) (q_assign rfl) ?_
      clear hF; intro a hF
      refine goW_take 24 _ rfl kQ rfl hF (hS.keep sQ zQ) (q_assign rfl) ?_
      clear hF; intro a hF
      exact goW_done kQ (j10_mk v_9_5 vD2 mdB2 mdC2 zD2 v_9_13 vMk M2 zE2 v_9_21 ((And.intro hzD2 (And.intro hmL2 (And.intro hmR2 (And.intro hzE2 (And.intro hML2 trivial)))))) (hF.sub (L' := [(8, _), (9, _), (10, _)]) ⟨rfl, rfl, rfl, trivial⟩) ((hS.perm (.cons _ (.swap _ _ _))).perm (.swap _ _ _)))
     ·refine stepW_ef _ rfl rfl hF hS rfl (ef_bsliceC ty24 ty37 [[_, _], [_, _], [_, _], [_, _], [_, _]] rfl rfl (by simp) (oc2_cons (oc_cons rfl (oc_cons (sl_one' hzD) oc_nil)) (oc2_cons (oc_cons rfl (oc_cons (sl_one' hzo) oc_nil)) (oc2_cons (oc_cons rfl (oc_cons (sl_one' hzD) oc_nil)) (oc2_cons (oc_cons rfl (oc_cons (sl_one' hzD) oc_nil)) (oc2_cons (oc_cons rfl (oc_cons (sl_one' hzD2) oc_nil)) oc2_nil))))) (by decide) rfl rfl) ?_
      clear hF hS; rintro v_9_13 _ _ a w ⟨rfl, rfl⟩ hF hS
      refine ⟨⟨iQ, iQ, iQ, iQ, iQ, iQ, iQ, iQ, iQ, iQ, iQ, iQ, .inr (hS.keep (sQ.n.n) (zQ.k.n.n.n.n.n)), .inr (hS.keep (sQ.n.n) (sQ.n.n.n.n.n.n)), .inr (hS.keep (sQ.n.n) (zQ.k.n.n.n.n.n)), .inr (hS.keep (sQ.n.n) (sQ.n.n.n.n.n.n)), .inr (hS.keep (sQ.n.n) (sQ.n.n.n.n.n.n)), trivial⟩, ?_⟩
      refine gQ 5 rfl rfl hF hS rfl (ef_bsliceC ty23 ty33 [[_, _, _], [_, _, _], [_, _, _], [_, _, _], [_, _, _]] rfl rfl (by simp) (oc2_cons (oc_cons (sl_one' hnF) (oc_cons (sl_one' hsF) (oc_cons (sl_one' hbF) oc_nil))) (oc2_cons (oc_cons (sl_one' hnF) (oc_cons (sl_one' hsF) (oc_cons (sl_one' hbF) oc_nil))) (oc2_cons (oc_cons (sl_one' hnO) (oc_cons (sl_one' hsO) (oc_cons (sl_one' hbO) oc_nil))) (oc2_cons (oc_cons (sl_one' hnF) (oc_cons (sl_one' hsF) (oc_cons (sl_one' hbF) oc_nil))) (oc2_cons (oc_cons (sl_one' hnO) (oc_cons (sl_one' hsO) (oc_cons (sl_one' hbO) oc_nil))) oc2_nil))))) (by decide) rfl rfl) ?_
      clear hF hS; rintro v_9_5 _ _ a w ⟨rfl, rfl⟩ hF hS
      refine ⟨⟨iQ, iQ, iQ, iQ, iQ, iQ, iQ, iQ, iQ, iQ, iQ, iQ, iQ, iQ, iQ, iQ, iQ, trivial⟩, ?_⟩
      refine goW_take 22 _ rfl kQ rfl hF (hS.keep sQ zQ) (q_assign rfl) ?_
      clear hF; intro a hF
      refine goW_take 23 _ rfl kQ rfl hF (hS.keep sQ zQ) (q_assign rfl) ?_
      clear hF; intro a hF
      refine goW_take 24 _ rfl kQ rfl hF (hS.keep sQ zQ) (q_assign rfl) ?_
      clear hF; intro a hF
      exact goW_done kQ (j10_mk v_9_5 vD2 mdB2 mdC2 zD2 v_9_13 vMk M2 zE2 v_9_21 ((And.intro hzD2 (And.intro hmL2 (And.intro hmR2 (And.intro hzE2 (And.intro hML2 trivial)))))) (hF.sub (L' := [(8, _), (9, _), (10, _)]) ⟨rfl, rfl, rfl, trivial⟩) (((hS.perm (.cons _ (.swap _ _ _))).perm (.swap _ _ _)).perm (.cons _ (.swap _ _ _))))
 rintro a w ⟨v_9_5, vD2, mdB2, mdC2, zD2, v_9_13, vMk, M2, zE2, v_9_21, ⟨hzD2, hmL2, hmR2, hzE2, hML2, -⟩, hF, hS⟩
 (try dsimp only at hF); (try dsimp only at hS)
 refine hK9 _ _ ?_
 clear hK9
 refine wp_ret ?_
 obtain ⟨zu, hzu, hS⟩ := hS.union
 replace hS : St _ [_, _, _, _, _, _, _, _, _] [_, _, _, _, _, _, _, _] _ := hS
 replace hS := hS.perm (.cons _ (.swap _ _ _))
 replace hS := hS.perm (.swap _ _ _)
 obtain ⟨zx, hzx, hS⟩ := St.freezeE encL (l := [[_, _, _], [_, _, _], [_, _, _], [_, _, _], [_, _, _]]) (xs := [(ns, xs, xb), (ns, xs, xb), (nsO, ys, yb), (ns, xs, xb), (nsO, ys, yb)]) hS (z' := zu) (by simp) rfl (by decide) ⟨⟨_, _, _, rfl, Sl.mono (hzu _ (by simp)) hnF, Sl.mono (hzu _ (by simp)) hsF, Sl.mono (hzu _ (by simp)) hbF⟩, ⟨_, _, _, rfl, Sl.mono (hzu _ (by simp)) hnF, Sl.mono (hzu _ (by simp)) hsF, Sl.mono (hzu _ (by simp)) hbF⟩, ⟨_, _, _, rfl, Sl.mono (hzu _ (by simp)) hnO, Sl.mono (hzu _ (by simp)) hsO, Sl.mono (hzu _ (by simp)) hbO⟩, ⟨_, _, _, rfl, Sl.mono (hzu _ (by simp)) hnF, Sl.mono (hzu _ (by simp)) hsF, Sl.mono (hzu _ (by simp)) hbF⟩, ⟨_, _, _, rfl, Sl.mono (hzu _ (by simp)) hnO, Sl.mono (hzu _ (by simp)) hsO, Sl.mono (hzu _ (by simp)) hbO⟩, trivial⟩
 replace hS := hS.perm (.swap _ _ _)
 obtain ⟨zq, hzq, hS⟩ := St.freezeE encQ (l := [[_, _], [_, _], [_, _], [_, _], [_, _]]) (xs := [(mdB, mdC), (Bo, Co), (mdB, mdC), (mdB, mdC), (mdB2, mdC2)]) hS (z' := zu) (by simp) rfl (by decide) ⟨⟨_, rfl, hmR, Sl.mono (hzu _ (by simp)) hzD⟩, ⟨_, rfl, hzo2.2, Sl.mono (hzu _ (by simp)) hzo⟩, ⟨_, rfl, hmR, Sl.mono (hzu _ (by simp)) hzD⟩, ⟨_, rfl, hmR, Sl.mono (hzu _ (by simp)) hzD⟩, ⟨_, rfl, hmR2, Sl.mono (hzu _ (by simp)) hzD2⟩, trivial⟩
 have hcut := Sl.cut (lo := 0) (hi := (max ((M.length : Int) - 1) 0).toNat) hzE (by omega)
 obtain ⟨zm, hzm, hS⟩ := St.freezeSl (E := encT) (xs := [M, M, M, ((M.take (max ((M.length : Int) - 1) 0).toNat).drop 0), M2]) hS (z' := zu) (by simp) rfl (by decide) ⟨Sl.mono (hzu _ (by simp)) hzE, Sl.mono (hzu _ (by simp)) hzE, Sl.mono (hzu _ (by simp)) hzE, Sl.mono (hzu _ (by simp)) hcut, Sl.mono (hzu _ (by simp)) hzE2, trivial⟩
 obtain ⟨zz, hzz, hS⟩ := hS.union
 exact fn_ret (rs := [.tmp 8, .tmp 9, .tmp 10]) rfl hF hS (vs := [_, _, _]) ⟨rfl, rfl, rfl, trivial⟩ (zs' := [zz]) (hs' := []) (List.singleton_sublist.2 (by simp)) zQ ⟨_, _, _, _, _, _, zz, rfl, hzx.mono (hzz _ (by simp)), hzq.mono (hzz _ (by simp)), hzm.mono (hzz _ (by simp)), ⟨rfl, rfl, rfl⟩, (by intro x hx; simp only [List.mem_cons, List.not_mem_nil, or_false] at hx; rcases hx with rfl | rfl | rfl | rfl | rfl <;> dsimp only <;> omega), (by intro x hx; simp only [List.mem_cons, List.not_mem_nil, or_false] at hx; rcases hx with rfl | rfl | rfl | rfl | rfl <;> dsimp only <;> omega), (by intro x hx; simp only [List.mem_cons, List.not_mem_nil, or_false] at hx; rcases hx with rfl | rfl | rfl | rfl | rfl <;> first | omega | (simp; omega)), rfl, rfl⟩
end Go.Proofs.Ytplceoanaoeejaa
