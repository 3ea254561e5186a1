/- A text of a proof over this seat: walks over the program's functions and the plain laws that they need. -/
import Derived.Test.YtdojfnigffeblaaDoorMm10
import Derived.Test.YtdojfnigffeblaaDoorMkA
import Derived.Test.YtdojfnigffeblaaDoorFwC
import Derived.Test.YtdojfnigffeblaaDoorFwB
set_option linter.all false
namespace Go.Proofs.YtdojfnigffeblaaDoor
open Go.Fw


attribute [local irreducible] Sha.sum Sha.mac Sha.ofD Wi.int Wi.ints Wi.bytes Sha.inp Mk.half Lib.compareBytes Mk.frm Mk.rootD Mk.keyB Gu.arnd Gu.atN

set_option maxRecDepth 4000 in
set_option maxHeartbeats 2000000 in
theorem bent_ct (q : Mk.Pf) (lv sv : Value) (how b : Int) (hh9 : -9223372036854775808 ≤ how ∧ how ≤ 9223372036854775807) (hb9 : -9223372036854775808 ≤ b ∧ b ≤ 9223372036854775807) (hsm : Mk.smP q 1000 1000) (w : World) (hb : Sl encF (ph w) lv q.lv) (hsd : Sl (encA 16) (ph w) sv q.sd)  : Ct Tryd.prog 28 [.agg [vi q.fst, vi q.sz, lv, sv].toArray, vi how, vi b] w (PfR (Mk.bent q how b)) := by
 refine fn_enter Tryd.func28 rfl Tryd.ntmps28 (Nat.le_of_ble_eq_true rfl) fun a hF hS => ?_
 obtain ⟨qf, qs, ql, qd⟩ := q
 dsimp only at hF hb hsd
 have hbl := hb.1
 have hdl : qd.length ≤ 140737488355328 := hsd.1
 have hs16 : ∀ d ∈ qd, d.length = 16 := sl_A hsd
 obtain ⟨hq1, hq2, hxs, _⟩ := id hsm
 dsimp only at hq1 hq2 hxs
 have hka := Gu.arnd_range (n := b) (m := max (ql.length : Int) 1) (by omega)
 have hja := Gu.arnd_range (n := b) (m := max (qd.length : Int) 1) (by omega)
 have hha := Gu.arnd_range (n := how) (m := 11) (by omega)
 have htd := Mk.tdiv8 hb9
 refine wp_seq_k ?_; intro K1 hK1
 refine regl ?_
 refine wpl_ef hF hS rfl (ef_boxA rfl) ?_
 clear hF hS; rintro _ _ _ a w ⟨b1, rfl, rfl, rfl⟩ hF hS
 refine wpl_ef hF hS rfl (ef_allocA ty54) ?_
 clear hF hS; rintro _ _ _ a w ⟨b2, rfl, rfl, rfl⟩ hF hS
 refine wpList_nil ?_
 refine hK1 _ _ ?_
 clear hK1
 refine wp_seq_k ?_; intro K2 hK2
 revert hS; revert hF; apply regJ (J := J5 (α0 := Value) (α1 := Value) (α2 := Value) (α3 := Value) (α4 := Nat) 170 _ _ _ _ _) #[false, false, false, false, false, false, false, false, false, false, false, false, false, false, false] 15 mixed rfl rfl
 ·intro w hF hS
  refine goW_take 0 _ rfl kQ rfl hF (hS.keep sQ zQ) (q_fieldAddr ty54 rfl rfl (s' := 0) kQ) ?_
  clear hF; intro a hF
  refine goW_take 1 _ rfl kQ rfl hF (hS.keep sQ (sQ.n)) (q_ld_blk1 ty3 0 rfl rfl rfl rfl) ?_
  clear hF; intro a hF
  refine goW_take 2 _ rfl kQ rfl hF (hS.keep sQ zQ) (q_fieldAddr ty54 rfl rfl (s' := 0) kQ) ?_
  clear hF; intro a hF
  refine goW_take 3 _ rfl kQ rfl hF (hS.keep sQ (sQ.n)) (q_ld_blk1 ty3 0 rfl rfl rfl rfl) ?_
  clear hF; intro a hF
  refine goW_take 5 _ rfl kQ rfl hF (hS.keep sQ zQ) (q_fieldAddr ty54 rfl rfl (s' := 0) kQ) ?_
  clear hF; intro a hF
  refine goW_take 6 _ rfl kQ rfl hF (hS.keep sQ (sQ.n)) (q_ld_blk1 ty24 0 rfl rfl rfl rfl) ?_
  clear hF; intro a hF
  refine goW_take 9 _ rfl kQ rfl hF (hS.keep sQ zQ) (q_fieldAddr ty54 rfl rfl (s' := 0) kQ) ?_
  clear hF; intro a hF
  refine goW_take 10 _ rfl kQ rfl hF (hS.keep sQ (sQ.n)) (q_ld_blk1 ty48 0 rfl rfl rfl rfl) ?_
  clear hF; intro a hF
  refine goW_fork [4, 8, 13] kQ rfl ⟨?_, ?_, ?_, trivial⟩
  ·refine stepW_ef _ rfl rfl hF hS rfl (ef_bslice0 ty24 ty75) ?_
   clear hF hS; rintro v_1_4 _ _ a w ⟨rfl, rfl⟩ hF hS
   refine ⟨⟨.inr (hS.k1 (sQ.n.n)), .inr hS.k0, .inr (hS.k1 (sQ.n.n)), .inr hS.k0, .inr (hS.k1 (sQ.n.n)), .inr hS.k0, .inr (hS.k1 (sQ.n.n)), .inr hS.k0, trivial⟩, ?_⟩
   refine goW_fork [7, 8, 13] kQ rfl ⟨?_, ?_, ?_, trivial⟩
   ·refine stepW_ef _ rfl rfl hF hS rfl (ef_append ty24 ty75 0 rfl rfl rfl (src_slK ty24 hb zin0 (by decide)) bQ rfl (by decide)) ?_
    clear hF hS; rintro v_1_7 _ _ a w ⟨rfl, rfl⟩ hF hS
    refine ⟨⟨.inr (hS.k1 (sQ.n.n)), .inr hS.k0, iQ, iQ, .inr (hS.k1 (sQ.n.n)), .inr hS.k0, .inr (hS.k1 (sQ.n.n)), .inr hS.k0, trivial⟩, ?_⟩
    refine goW_fork [8, 13] kQ rfl ⟨?_, ?_, trivial⟩
    ·refine stepW_ef _ rfl rfl hF hS rfl (ef_bslice0 ty48 ty29) ?_
     clear hF hS; rintro v_1_8 _ _ a w ⟨rfl, rfl⟩ hF hS
     refine ⟨⟨.inr (hS.k1 (sQ.n.n.n)), .inr hS.k0, iQ, iQ, .inr (hS.k1 (sQ.n.n.n)), .inr hS.k0, .inr (hS.k1 (sQ.n.n.n)), .inr hS.k0, trivial⟩, ?_⟩
     refine goW_fork [11, 13] kQ rfl ⟨?_, ?_, trivial⟩
     ·refine stepW_ef _ rfl rfl hF hS rfl (ef_append ty48 ty29 0 rfl rfl rfl (src_slA ty48 hsd zin0 (by decide)) bQ rfl (by decide)) ?_
      clear hF hS; rintro v_1_11 _ _ a w ⟨rfl, rfl⟩ hF hS
      refine ⟨⟨iQ, iQ, iQ, iQ, .inr (hS.k1 (sQ.n.n.n)), .inr hS.k0, .inr (hS.k1 (sQ.n.n.n)), .inr hS.k0, trivial⟩, ?_⟩
      refine goW_take 12 _ rfl kQ rfl hF (hS.keep sQ (zQ.k.k)) (q_buildS1 ty54 4 kQ rfl rfl (oc_cons rfl (oc_cons rfl (oc_cons (row_one (hS.own _ (List.mem_of_getElem? (i := 1) rfl)).1) (oc_cons (row_one (hS.own _ (List.mem_of_getElem? (i := 0) rfl)).1) oc_nil)))) rfl rfl) ?_
      clear hF; intro a hF
      refine gQ 13 rfl rfl hF hS rfl (ef_allocA ty54) ?_
      clear hF hS; rintro _ _ _ a w ⟨b_1_13, rfl, rfl, rfl⟩ hF hS
      refine ⟨⟨.inr (hS.k1 (zQ.k.k.n)), iQ, iQ, iQ, iQ, .inr (hS.k1 (sQ.n.n.n.n)), .inr hS.k0, .inr (hS.k1 (sQ.n.n.n.n)), .inr hS.k0, trivial⟩, ?_⟩
      refine gQ 14 rfl rfl hF hS rfl (ef_storeW ty54 0 rfl rfl rfl rfl bQ (oc_cons rfl (oc_cons rfl (oc_cons (row_one (hS.own _ (List.mem_of_getElem? (i := 2) rfl)).1) (oc_cons (row_one (hS.own _ (List.mem_of_getElem? (i := 1) rfl)).1) oc_nil)))) bQ) ?_
      clear hF hS; rintro _ _ _ a w ⟨rfl, rfl, rfl⟩ hF hS
      refine ⟨⟨iQ, iQ, iQ, iQ, iQ, iQ, iQ, iQ, iQ, trivial⟩, ?_⟩
      exact goW_done kQ (j5_mk v_1_4 v_1_7 v_1_8 v_1_11 b_1_13 (trivial) (hF.sub (L' := [(1, _), (2, _), (6, _), (7, _)]) ⟨rfl, rfl, rfl, rfl, trivial⟩) hS)
     ·refine stepW_ef _ rfl rfl hF hS rfl (ef_allocA ty54) ?_
      clear hF hS; rintro _ _ _ a w ⟨b_1_13, rfl, rfl, rfl⟩ hF hS
      refine ⟨⟨.inr (hS.k1 (sQ.n.n.n.n)), .inr hS.k0, iQ, iQ, .inr (hS.k1 (sQ.n.n.n.n)), .inr hS.k0, .inr (hS.k1 (sQ.n.n.n.n)), .inr hS.k0, trivial⟩, ?_⟩
      refine gQ 11 rfl rfl hF hS rfl (ef_append ty48 ty29 1 rfl rfl rfl (src_slA ty48 hsd zin0 (by decide)) bQ rfl (by decide)) ?_
      clear hF hS; rintro v_1_11 _ _ a w ⟨rfl, rfl⟩ hF hS
      refine ⟨⟨iQ, iQ, iQ, iQ, .inr (hS.k1 (sQ.n.n.n.n)), .inr hS.k0, .inr (hS.k1 (sQ.n.n.n.n)), .inr hS.k0, trivial⟩, ?_⟩
      refine goW_take 12 _ rfl kQ rfl hF (hS.keep sQ (zQ.k.k.n)) (q_buildS1 ty54 4 kQ rfl rfl (oc_cons rfl (oc_cons rfl (oc_cons (row_one (hS.own _ (List.mem_of_getElem? (i := 2) rfl)).1) (oc_cons (row_one (hS.own _ (List.mem_of_getElem? (i := 1) rfl)).1) oc_nil)))) rfl rfl) ?_
      clear hF; intro a hF
      refine gQ 14 rfl rfl hF hS rfl (ef_storeW ty54 0 rfl rfl rfl rfl bQ (oc_cons rfl (oc_cons rfl (oc_cons (row_one (hS.own _ (List.mem_of_getElem? (i := 2) rfl)).1) (oc_cons (row_one (hS.own _ (List.mem_of_getElem? (i := 1) rfl)).1) oc_nil)))) bQ) ?_
      clear hF hS; rintro _ _ _ a w ⟨rfl, rfl, rfl⟩ hF hS
      refine ⟨⟨iQ, iQ, iQ, iQ, iQ, iQ, iQ, iQ, iQ, trivial⟩, ?_⟩
      exact goW_done kQ (j5_mk v_1_4 v_1_7 v_1_8 v_1_11 b_1_13 (trivial) (hF.sub (L' := [(1, _), (2, _), (6, _), (7, _)]) ⟨rfl, rfl, rfl, rfl, trivial⟩) hS)
    ·refine stepW_ef _ rfl rfl hF hS rfl (ef_allocA ty54) ?_
     clear hF hS; rintro _ _ _ a w ⟨b_1_13, rfl, rfl, rfl⟩ hF hS
     refine ⟨⟨.inr (hS.k1 (sQ.n.n.n)), .inr hS.k0, iQ, iQ, .inr (hS.k1 (sQ.n.n.n)), .inr hS.k0, .inr (hS.k1 (sQ.n.n.n)), .inr hS.k0, trivial⟩, ?_⟩
     refine gQ 8 rfl rfl hF hS rfl (ef_bslice0 ty48 ty29) ?_
     clear hF hS; rintro v_1_8 _ _ a w ⟨rfl, rfl⟩ hF hS
     refine ⟨⟨.inr (hS.k1 (sQ.n.n.n.n)), .inr hS.k0, iQ, iQ, .inr (hS.k1 (sQ.n.n.n.n)), .inr hS.k0, .inr (hS.k1 (sQ.n.n.n.n)), .inr hS.k0, trivial⟩, ?_⟩
     refine gQ 11 rfl rfl hF hS rfl (ef_append ty48 ty29 0 rfl rfl rfl (src_slA ty48 hsd zin0 (by decide)) bQ rfl (by decide)) ?_
     clear hF hS; rintro v_1_11 _ _ a w ⟨rfl, rfl⟩ hF hS
     refine ⟨⟨iQ, iQ, iQ, iQ, .inr (hS.k1 (sQ.n.n.n.n)), .inr hS.k0, .inr (hS.k1 (sQ.n.n.n.n)), .inr hS.k0, trivial⟩, ?_⟩
     refine goW_take 12 _ rfl kQ rfl hF (hS.keep sQ (zQ.k.n.k)) (q_buildS1 ty54 4 kQ rfl rfl (oc_cons rfl (oc_cons rfl (oc_cons (row_one (hS.own _ (List.mem_of_getElem? (i := 2) rfl)).1) (oc_cons (row_one (hS.own _ (List.mem_of_getElem? (i := 0) rfl)).1) oc_nil)))) rfl rfl) ?_
     clear hF; intro a hF
     refine gQ 14 rfl rfl hF hS rfl (ef_storeW ty54 1 rfl rfl rfl rfl bQ (oc_cons rfl (oc_cons rfl (oc_cons (row_one (hS.own _ (List.mem_of_getElem? (i := 2) rfl)).1) (oc_cons (row_one (hS.own _ (List.mem_of_getElem? (i := 0) rfl)).1) oc_nil)))) bQ) ?_
     clear hF hS; rintro _ _ _ a w ⟨rfl, rfl, rfl⟩ hF hS
     refine ⟨⟨iQ, iQ, iQ, iQ, iQ, iQ, iQ, iQ, iQ, trivial⟩, ?_⟩
     exact goW_done kQ (j5_mk v_1_4 v_1_7 v_1_8 v_1_11 b_1_13 (trivial) (hF.sub (L' := [(1, _), (2, _), (6, _), (7, _)]) ⟨rfl, rfl, rfl, rfl, trivial⟩) (hS.perm (.swap _ _ _)))
   ·refine stepW_ef _ rfl rfl hF hS rfl (ef_bslice0 ty48 ty29) ?_
    clear hF hS; rintro v_1_8 _ _ a w ⟨rfl, rfl⟩ hF hS
    refine ⟨⟨.inr (hS.k1 (sQ.n.n.n)), .inr hS.k0, .inr (hS.k1 (sQ.n.n.n)), .inr hS.k0, .inr (hS.k1 (sQ.n.n.n)), .inr hS.k0, .inr (hS.k1 (sQ.n.n.n)), .inr hS.k0, trivial⟩, ?_⟩
    refine goW_fork [7, 13] kQ rfl ⟨?_, ?_, trivial⟩
    ·refine stepW_ef _ rfl rfl hF hS rfl (ef_append ty24 ty75 1 rfl rfl rfl (src_slK ty24 hb zin0 (by decide)) bQ rfl (by decide)) ?_
     clear hF hS; rintro v_1_7 _ _ a w ⟨rfl, rfl⟩ hF hS
     refine ⟨⟨.inr (hS.k1 (sQ.n.n.n)), .inr hS.k0, iQ, iQ, .inr (hS.k1 (sQ.n.n.n)), .inr hS.k0, .inr (hS.k1 (sQ.n.n.n)), .inr hS.k0, trivial⟩, ?_⟩
     refine goW_fork [11, 13] kQ rfl ⟨?_, ?_, trivial⟩
     ·refine stepW_ef _ rfl rfl hF hS rfl (ef_append ty48 ty29 0 rfl rfl rfl (src_slA ty48 hsd zin0 (by decide)) bQ rfl (by decide)) ?_
      clear hF hS; rintro v_1_11 _ _ a w ⟨rfl, rfl⟩ hF hS
      refine ⟨⟨iQ, iQ, iQ, iQ, .inr (hS.k1 (sQ.n.n.n)), .inr hS.k0, .inr (hS.k1 (sQ.n.n.n)), .inr hS.k0, trivial⟩, ?_⟩
      refine goW_take 12 _ rfl kQ rfl hF (hS.keep sQ (zQ.k.k)) (q_buildS1 ty54 4 kQ rfl rfl (oc_cons rfl (oc_cons rfl (oc_cons (row_one (hS.own _ (List.mem_of_getElem? (i := 1) rfl)).1) (oc_cons (row_one (hS.own _ (List.mem_of_getElem? (i := 0) rfl)).1) oc_nil)))) rfl rfl) ?_
      clear hF; intro a hF
      refine gQ 13 rfl rfl hF hS rfl (ef_allocA ty54) ?_
      clear hF hS; rintro _ _ _ a w ⟨b_1_13, rfl, rfl, rfl⟩ hF hS
      refine ⟨⟨.inr (hS.k1 (zQ.k.k.n)), iQ, iQ, iQ, iQ, .inr (hS.k1 (sQ.n.n.n.n)), .inr hS.k0, .inr (hS.k1 (sQ.n.n.n.n)), .inr hS.k0, trivial⟩, ?_⟩
      refine gQ 14 rfl rfl hF hS rfl (ef_storeW ty54 0 rfl rfl rfl rfl bQ (oc_cons rfl (oc_cons rfl (oc_cons (row_one (hS.own _ (List.mem_of_getElem? (i := 2) rfl)).1) (oc_cons (row_one (hS.own _ (List.mem_of_getElem? (i := 1) rfl)).1) oc_nil)))) bQ) ?_
      clear hF hS; rintro _ _ _ a w ⟨rfl, rfl, rfl⟩ hF hS
      refine ⟨⟨iQ, iQ, iQ, iQ, iQ, iQ, iQ, iQ, iQ, trivial⟩, ?_⟩
      exact goW_done kQ (j5_mk v_1_4 v_1_7 v_1_8 v_1_11 b_1_13 (trivial) (hF.sub (L' := [(1, _), (2, _), (6, _), (7, _)]) ⟨rfl, rfl, rfl, rfl, trivial⟩) hS)
     ·refine stepW_ef _ rfl rfl hF hS rfl (ef_allocA ty54) ?_
      clear hF hS; rintro _ _ _ a w ⟨b_1_13, rfl, rfl, rfl⟩ hF hS
      refine ⟨⟨.inr (hS.k1 (sQ.n.n.n.n)), .inr hS.k0, iQ, iQ, .inr (hS.k1 (sQ.n.n.n.n)), .inr hS.k0, .inr (hS.k1 (sQ.n.n.n.n)), .inr hS.k0, trivial⟩, ?_⟩
      refine gQ 11 rfl rfl hF hS rfl (ef_append ty48 ty29 1 rfl rfl rfl (src_slA ty48 hsd zin0 (by decide)) bQ rfl (by decide)) ?_
      clear hF hS; rintro v_1_11 _ _ a w ⟨rfl, rfl⟩ hF hS
      refine ⟨⟨iQ, iQ, iQ, iQ, .inr (hS.k1 (sQ.n.n.n.n)), .inr hS.k0, .inr (hS.k1 (sQ.n.n.n.n)), .inr hS.k0, trivial⟩, ?_⟩
      refine goW_take 12 _ rfl kQ rfl hF (hS.keep sQ (zQ.k.k.n)) (q_buildS1 ty54 4 kQ rfl rfl (oc_cons rfl (oc_cons rfl (oc_cons (row_one (hS.own _ (List.mem_of_getElem? (i := 2) rfl)).1) (oc_cons (row_one (hS.own _ (List.mem_of_getElem? (i := 1) rfl)).1) oc_nil)))) rfl rfl) ?_
      clear hF; intro a hF
      refine gQ 14 rfl rfl hF hS rfl (ef_storeW ty54 0 rfl rfl rfl rfl bQ (oc_cons rfl (oc_cons rfl (oc_cons (row_one (hS.own _ (List.mem_of_getElem? (i := 2) rfl)).1) (oc_cons (row_one (hS.own _ (List.mem_of_getElem? (i := 1) rfl)).1) oc_nil)))) bQ) ?_
      clear hF hS; rintro _ _ _ a w ⟨rfl, rfl, rfl⟩ hF hS
      refine ⟨⟨iQ, iQ, iQ, iQ, iQ, iQ, iQ, iQ, iQ, trivial⟩, ?_⟩
      exact goW_done kQ (j5_mk v_1_4 v_1_7 v_1_8 v_1_11 b_1_13 (trivial) (hF.sub (L' := [(1, _), (2, _), (6, _), (7, _)]) ⟨rfl, rfl, rfl, rfl, trivial⟩) hS)
    ·refine stepW_ef _ rfl rfl hF hS rfl (ef_allocA ty54) ?_
     clear hF hS; rintro _ _ _ a w ⟨b_1_13, rfl, rfl, rfl⟩ hF hS
     refine ⟨⟨.inr (hS.k1 (sQ.n.n.n.n)), .inr hS.k0, .inr (hS.k1 (sQ.n.n.n.n)), .inr hS.k0, .inr (hS.k1 (sQ.n.n.n.n)), .inr hS.k0, .inr (hS.k1 (sQ.n.n.n.n)), .inr hS.k0, trivial⟩, ?_⟩
     refine gQ 7 rfl rfl hF hS rfl (ef_append ty24 ty75 2 rfl rfl rfl (src_slK ty24 hb zin0 (by decide)) bQ rfl (by decide)) ?_
     clear hF hS; rintro v_1_7 _ _ a w ⟨rfl, rfl⟩ hF hS
     refine ⟨⟨.inr (hS.k1 (sQ.n.n.n.n)), .inr hS.k0, iQ, iQ, .inr (hS.k1 (sQ.n.n.n.n)), .inr hS.k0, .inr (hS.k1 (sQ.n.n.n.n)), .inr hS.k0, trivial⟩, ?_⟩
     refine gQ 11 rfl rfl hF hS rfl (ef_append ty48 ty29 1 rfl rfl rfl (src_slA ty48 hsd zin0 (by decide)) bQ rfl (by decide)) ?_
     clear hF hS; rintro v_1_11 _ _ a w ⟨rfl, rfl⟩ hF hS
     refine ⟨⟨iQ, iQ, iQ, iQ, .inr (hS.k1 (sQ.n.n.n.n)), .inr hS.k0, .inr (hS.k1 (sQ.n.n.n.n)), .inr hS.k0, trivial⟩, ?_⟩
     refine goW_take 12 _ rfl kQ rfl hF (hS.keep sQ (zQ.k.k.n)) (q_buildS1 ty54 4 kQ rfl rfl (oc_cons rfl (oc_cons rfl (oc_cons (row_one (hS.own _ (List.mem_of_getElem? (i := 2) rfl)).1) (oc_cons (row_one (hS.own _ (List.mem_of_getElem? (i := 1) rfl)).1) oc_nil)))) rfl rfl) ?_
     clear hF; intro a hF
     refine gQ 14 rfl rfl hF hS rfl (ef_storeW ty54 0 rfl rfl rfl rfl bQ (oc_cons rfl (oc_cons rfl (oc_cons (row_one (hS.own _ (List.mem_of_getElem? (i := 2) rfl)).1) (oc_cons (row_one (hS.own _ (List.mem_of_getElem? (i := 1) rfl)).1) oc_nil)))) bQ) ?_
     clear hF hS; rintro _ _ _ a w ⟨rfl, rfl, rfl⟩ hF hS
     refine ⟨⟨iQ, iQ, iQ, iQ, iQ, iQ, iQ, iQ, iQ, trivial⟩, ?_⟩
     exact goW_done kQ (j5_mk v_1_4 v_1_7 v_1_8 v_1_11 b_1_13 (trivial) (hF.sub (L' := [(1, _), (2, _), (6, _), (7, _)]) ⟨rfl, rfl, rfl, rfl, trivial⟩) hS)
   ·refine stepW_ef _ rfl rfl hF hS rfl (ef_allocA ty54) ?_
    clear hF hS; rintro _ _ _ a w ⟨b_1_13, rfl, rfl, rfl⟩ hF hS
    refine ⟨⟨.inr (hS.k1 (sQ.n.n.n)), .inr hS.k0, .inr (hS.k1 (sQ.n.n.n)), .inr hS.k0, .inr (hS.k1 (sQ.n.n.n)), .inr hS.k0, .inr (hS.k1 (sQ.n.n.n)), .inr hS.k0, trivial⟩, ?_⟩
    refine goW_fork [7, 8] kQ rfl ⟨?_, ?_, trivial⟩
    ·refine stepW_ef _ rfl rfl hF hS rfl (ef_append ty24 ty75 1 rfl rfl rfl (src_slK ty24 hb zin0 (by decide)) bQ rfl (by decide)) ?_
     clear hF hS; rintro v_1_7 _ _ a w ⟨rfl, rfl⟩ hF hS
     refine ⟨⟨.inr (hS.k1 (sQ.n.n.n)), .inr hS.k0, iQ, iQ, .inr (hS.k1 (sQ.n.n.n)), .inr hS.k0, .inr (hS.k1 (sQ.n.n.n)), .inr hS.k0, trivial⟩, ?_⟩
     refine gQ 8 rfl rfl hF hS rfl (ef_bslice0 ty48 ty29) ?_
     clear hF hS; rintro v_1_8 _ _ a w ⟨rfl, rfl⟩ hF hS
     refine ⟨⟨.inr (hS.k1 (sQ.n.n.n.n)), .inr hS.k0, iQ, iQ, .inr (hS.k1 (sQ.n.n.n.n)), .inr hS.k0, .inr (hS.k1 (sQ.n.n.n.n)), .inr hS.k0, trivial⟩, ?_⟩
     refine gQ 11 rfl rfl hF hS rfl (ef_append ty48 ty29 0 rfl rfl rfl (src_slA ty48 hsd zin0 (by decide)) bQ rfl (by decide)) ?_
     clear hF hS; rintro v_1_11 _ _ a w ⟨rfl, rfl⟩ hF hS
     refine ⟨⟨iQ, iQ, iQ, iQ, .inr (hS.k1 (sQ.n.n.n.n)), .inr hS.k0, .inr (hS.k1 (sQ.n.n.n.n)), .inr hS.k0, trivial⟩, ?_⟩
     refine goW_take 12 _ rfl kQ rfl hF (hS.keep sQ (zQ.k.n.k)) (q_buildS1 ty54 4 kQ rfl rfl (oc_cons rfl (oc_cons rfl (oc_cons (row_one (hS.own _ (List.mem_of_getElem? (i := 2) rfl)).1) (oc_cons (row_one (hS.own _ (List.mem_of_getElem? (i := 0) rfl)).1) oc_nil)))) rfl rfl) ?_
     clear hF; intro a hF
     refine gQ 14 rfl rfl hF hS rfl (ef_storeW ty54 1 rfl rfl rfl rfl bQ (oc_cons rfl (oc_cons rfl (oc_cons (row_one (hS.own _ (List.mem_of_getElem? (i := 2) rfl)).1) (oc_cons (row_one (hS.own _ (List.mem_of_getElem? (i := 0) rfl)).1) oc_nil)))) bQ) ?_
     clear hF hS; rintro _ _ _ a w ⟨rfl, rfl, rfl⟩ hF hS
     refine ⟨⟨iQ, iQ, iQ, iQ, iQ, iQ, iQ, iQ, iQ, trivial⟩, ?_⟩
     exact goW_done kQ (j5_mk v_1_4 v_1_7 v_1_8 v_1_11 b_1_13 (trivial) (hF.sub (L' := [(1, _), (2, _), (6, _), (7, _)]) ⟨rfl, rfl, rfl, rfl, trivial⟩) (hS.perm (.swap _ _ _)))
    ·refine stepW_ef _ rfl rfl hF hS rfl (ef_bslice0 ty48 ty29) ?_
     clear hF hS; rintro v_1_8 _ _ a w ⟨rfl, rfl⟩ hF hS
     refine ⟨⟨.inr (hS.k1 (sQ.n.n.n.n)), .inr hS.k0, .inr (hS.k1 (sQ.n.n.n.n)), .inr hS.k0, .inr (hS.k1 (sQ.n.n.n.n)), .inr hS.k0, .inr (hS.k1 (sQ.n.n.n.n)), .inr hS.k0, trivial⟩, ?_⟩
     refine gQ 7 rfl rfl hF hS rfl (ef_append ty24 ty75 2 rfl rfl rfl (src_slK ty24 hb zin0 (by decide)) bQ rfl (by decide)) ?_
     clear hF hS; rintro v_1_7 _ _ a w ⟨rfl, rfl⟩ hF hS
     refine ⟨⟨.inr (hS.k1 (sQ.n.n.n.n)), .inr hS.k0, iQ, iQ, .inr (hS.k1 (sQ.n.n.n.n)), .inr hS.k0, .inr (hS.k1 (sQ.n.n.n.n)), .inr hS.k0, trivial⟩, ?_⟩
     refine gQ 11 rfl rfl hF hS rfl (ef_append ty48 ty29 0 rfl rfl rfl (src_slA ty48 hsd zin0 (by decide)) bQ rfl (by decide)) ?_
     clear hF hS; rintro v_1_11 _ _ a w ⟨rfl, rfl⟩ hF hS
     refine ⟨⟨iQ, iQ, iQ, iQ, .inr (hS.k1 (sQ.n.n.n.n)), .inr hS.k0, .inr (hS.k1 (sQ.n.n.n.n)), .inr hS.k0, trivial⟩, ?_⟩
     refine goW_take 12 _ rfl kQ rfl hF (hS.keep sQ (zQ.k.n.k)) (q_buildS1 ty54 4 kQ rfl rfl (oc_cons rfl (oc_cons rfl (oc_cons (row_one (hS.own _ (List.mem_of_getElem? (i := 2) rfl)).1) (oc_cons (row_one (hS.own _ (List.mem_of_getElem? (i := 0) rfl)).1) oc_nil)))) rfl rfl) ?_
     clear hF; intro a hF
     refine gQ 14 rfl rfl hF hS rfl (ef_storeW ty54 1 rfl rfl rfl rfl bQ (oc_cons rfl (oc_cons rfl (oc_cons (row_one (hS.own _ (List.mem_of_getElem? (i := 2) rfl)).1) (oc_cons (row_one (hS.own _ (List.mem_of_getElem? (i := 0) rfl)).1) oc_nil)))) bQ) ?_
     clear hF hS; rintro _ _ _ a w ⟨rfl, rfl, rfl⟩ hF hS
     refine ⟨⟨iQ, iQ, iQ, iQ, iQ, iQ, iQ, iQ, iQ, trivial⟩, ?_⟩
     exact goW_done kQ (j5_mk v_1_4 v_1_7 v_1_8 v_1_11 b_1_13 (trivial) (hF.sub (L' := [(1, _), (2, _), (6, _), (7, _)]) ⟨rfl, rfl, rfl, rfl, trivial⟩) (hS.perm (.swap _ _ _)))
  ·refine stepW_ef _ rfl rfl hF hS rfl (ef_bslice0 ty48 ty29) ?_
   clear hF hS; rintro v_1_8 _ _ a w ⟨rfl, rfl⟩ hF hS
   refine ⟨⟨.inr (hS.k1 (sQ.n.n)), .inr hS.k0, .inr (hS.k1 (sQ.n.n)), .inr hS.k0, .inr (hS.k1 (sQ.n.n)), .inr hS.k0, .inr (hS.k1 (sQ.n.n)), .inr hS.k0, trivial⟩, ?_⟩
   refine goW_fork [4, 13] kQ rfl ⟨?_, ?_, trivial⟩
   ·refine stepW_ef _ rfl rfl hF hS rfl (ef_bslice0 ty24 ty75) ?_
    clear hF hS; rintro v_1_4 _ _ a w ⟨rfl, rfl⟩ hF hS
    refine ⟨⟨.inr (hS.k1 (sQ.n.n.n)), .inr hS.k0, .inr (hS.k1 (sQ.n.n.n)), .inr hS.k0, .inr (hS.k1 (sQ.n.n.n)), .inr hS.k0, .inr (hS.k1 (sQ.n.n.n)), .inr hS.k0, trivial⟩, ?_⟩
    refine goW_fork [7, 13] kQ rfl ⟨?_, ?_, trivial⟩
    ·refine stepW_ef _ rfl rfl hF hS rfl (ef_append ty24 ty75 0 rfl rfl rfl (src_slK ty24 hb zin0 (by decide)) bQ rfl (by decide)) ?_
     clear hF hS; rintro v_1_7 _ _ a w ⟨rfl, rfl⟩ hF hS
     refine ⟨⟨.inr (hS.k1 (sQ.n.n.n)), .inr hS.k0, iQ, iQ, .inr (hS.k1 (sQ.n.n.n)), .inr hS.k0, .inr (hS.k1 (sQ.n.n.n)), .inr hS.k0, trivial⟩, ?_⟩
     refine goW_fork [11, 13] kQ rfl ⟨?_, ?_, trivial⟩
     ·refine stepW_ef _ rfl rfl hF hS rfl (ef_append ty48 ty29 1 rfl rfl rfl (src_slA ty48 hsd zin0 (by decide)) bQ rfl (by decide)) ?_
      clear hF hS; rintro v_1_11 _ _ a w ⟨rfl, rfl⟩ hF hS
      refine ⟨⟨iQ, iQ, iQ, iQ, .inr (hS.k1 (sQ.n.n.n)), .inr hS.k0, .inr (hS.k1 (sQ.n.n.n)), .inr hS.k0, trivial⟩, ?_⟩
      refine goW_take 12 _ rfl kQ rfl hF (hS.keep sQ (zQ.k.k)) (q_buildS1 ty54 4 kQ rfl rfl (oc_cons rfl (oc_cons rfl (oc_cons (row_one (hS.own _ (List.mem_of_getElem? (i := 0) rfl)).1) (oc_cons (row_one (hS.own _ (List.mem_of_getElem? (i := 1) rfl)).1) oc_nil)))) rfl rfl) ?_
      clear hF; intro a hF
      refine gQ 13 rfl rfl hF hS rfl (ef_allocA ty54) ?_
      clear hF hS; rintro _ _ _ a w ⟨b_1_13, rfl, rfl, rfl⟩ hF hS
      refine ⟨⟨.inr (hS.k1 (zQ.k.k.n)), iQ, iQ, iQ, iQ, .inr (hS.k1 (sQ.n.n.n.n)), .inr hS.k0, .inr (hS.k1 (sQ.n.n.n.n)), .inr hS.k0, trivial⟩, ?_⟩
      refine gQ 14 rfl rfl hF hS rfl (ef_storeW ty54 0 rfl rfl rfl rfl bQ (oc_cons rfl (oc_cons rfl (oc_cons (row_one (hS.own _ (List.mem_of_getElem? (i := 1) rfl)).1) (oc_cons (row_one (hS.own _ (List.mem_of_getElem? (i := 2) rfl)).1) oc_nil)))) bQ) ?_
      clear hF hS; rintro _ _ _ a w ⟨rfl, rfl, rfl⟩ hF hS
      refine ⟨⟨iQ, iQ, iQ, iQ, iQ, iQ, iQ, iQ, iQ, trivial⟩, ?_⟩
      exact goW_done kQ (j5_mk v_1_4 v_1_7 v_1_8 v_1_11 b_1_13 (trivial) (hF.sub (L' := [(1, _), (2, _), (6, _), (7, _)]) ⟨rfl, rfl, rfl, rfl, trivial⟩) (hS.perm (.cons _ (.swap _ _ _))))
     ·refine stepW_ef _ rfl rfl hF hS rfl (ef_allocA ty54) ?_
      clear hF hS; rintro _ _ _ a w ⟨b_1_13, rfl, rfl, rfl⟩ hF hS
      refine ⟨⟨.inr (hS.k1 (sQ.n.n.n.n)), .inr hS.k0, iQ, iQ, .inr (hS.k1 (sQ.n.n.n.n)), .inr hS.k0, .inr (hS.k1 (sQ.n.n.n.n)), .inr hS.k0, trivial⟩, ?_⟩
      refine gQ 11 rfl rfl hF hS rfl (ef_append ty48 ty29 2 rfl rfl rfl (src_slA ty48 hsd zin0 (by decide)) bQ rfl (by decide)) ?_
      clear hF hS; rintro v_1_11 _ _ a w ⟨rfl, rfl⟩ hF hS
      refine ⟨⟨iQ, iQ, iQ, iQ, .inr (hS.k1 (sQ.n.n.n.n)), .inr hS.k0, .inr (hS.k1 (sQ.n.n.n.n)), .inr hS.k0, trivial⟩, ?_⟩
      refine goW_take 12 _ rfl kQ rfl hF (hS.keep sQ (zQ.k.k.n)) (q_buildS1 ty54 4 kQ rfl rfl (oc_cons rfl (oc_cons rfl (oc_cons (row_one (hS.own _ (List.mem_of_getElem? (i := 1) rfl)).1) (oc_cons (row_one (hS.own _ (List.mem_of_getElem? (i := 2) rfl)).1) oc_nil)))) rfl rfl) ?_
      clear hF; intro a hF
      refine gQ 14 rfl rfl hF hS rfl (ef_storeW ty54 0 rfl rfl rfl rfl bQ (oc_cons rfl (oc_cons rfl (oc_cons (row_one (hS.own _ (List.mem_of_getElem? (i := 1) rfl)).1) (oc_cons (row_one (hS.own _ (List.mem_of_getElem? (i := 2) rfl)).1) oc_nil)))) bQ) ?_
      clear hF hS; rintro _ _ _ a w ⟨rfl, rfl, rfl⟩ hF hS
      refine ⟨⟨iQ, iQ, iQ, iQ, iQ, iQ, iQ, iQ, iQ, trivial⟩, ?_⟩
      exact goW_done kQ (j5_mk v_1_4 v_1_7 v_1_8 v_1_11 b_1_13 (trivial) (hF.sub (L' := [(1, _), (2, _), (6, _), (7, _)]) ⟨rfl, rfl, rfl, rfl, trivial⟩) (hS.perm (.cons _ (.swap _ _ _))))
    ·refine stepW_ef _ rfl rfl hF hS rfl (ef_allocA ty54) ?_
     clear hF hS; rintro _ _ _ a w ⟨b_1_13, rfl, rfl, rfl⟩ hF hS
     refine ⟨⟨.inr (hS.k1 (sQ.n.n.n.n)), .inr hS.k0, .inr (hS.k1 (sQ.n.n.n.n)), .inr hS.k0, .inr (hS.k1 (sQ.n.n.n.n)), .inr hS.k0, .inr (hS.k1 (sQ.n.n.n.n)), .inr hS.k0, trivial⟩, ?_⟩
     refine gQ 7 rfl rfl hF hS rfl (ef_append ty24 ty75 1 rfl rfl rfl (src_slK ty24 hb zin0 (by decide)) bQ rfl (by decide)) ?_
     clear hF hS; rintro v_1_7 _ _ a w ⟨rfl, rfl⟩ hF hS
     refine ⟨⟨.inr (hS.k1 (sQ.n.n.n.n)), .inr hS.k0, iQ, iQ, .inr (hS.k1 (sQ.n.n.n.n)), .inr hS.k0, .inr (hS.k1 (sQ.n.n.n.n)), .inr hS.k0, trivial⟩, ?_⟩
     refine gQ 11 rfl rfl hF hS rfl (ef_append ty48 ty29 2 rfl rfl rfl (src_slA ty48 hsd zin0 (by decide)) bQ rfl (by decide)) ?_
     clear hF hS; rintro v_1_11 _ _ a w ⟨rfl, rfl⟩ hF hS
     refine ⟨⟨iQ, iQ, iQ, iQ, .inr (hS.k1 (sQ.n.n.n.n)), .inr hS.k0, .inr (hS.k1 (sQ.n.n.n.n)), .inr hS.k0, trivial⟩, ?_⟩
     refine goW_take 12 _ rfl kQ rfl hF (hS.keep sQ (zQ.k.k.n)) (q_buildS1 ty54 4 kQ rfl rfl (oc_cons rfl (oc_cons rfl (oc_cons (row_one (hS.own _ (List.mem_of_getElem? (i := 1) rfl)).1) (oc_cons (row_one (hS.own _ (List.mem_of_getElem? (i := 2) rfl)).1) oc_nil)))) rfl rfl) ?_
     clear hF; intro a hF
     refine gQ 14 rfl rfl hF hS rfl (ef_storeW ty54 0 rfl rfl rfl rfl bQ (oc_cons rfl (oc_cons rfl (oc_cons (row_one (hS.own _ (List.mem_of_getElem? (i := 1) rfl)).1) (oc_cons (row_one (hS.own _ (List.mem_of_getElem? (i := 2) rfl)).1) oc_nil)))) bQ) ?_
     clear hF hS; rintro _ _ _ a w ⟨rfl, rfl, rfl⟩ hF hS
     refine ⟨⟨iQ, iQ, iQ, iQ, iQ, iQ, iQ, iQ, iQ, trivial⟩, ?_⟩
     exact goW_done kQ (j5_mk v_1_4 v_1_7 v_1_8 v_1_11 b_1_13 (trivial) (hF.sub (L' := [(1, _), (2, _), (6, _), (7, _)]) ⟨rfl, rfl, rfl, rfl, trivial⟩) (hS.perm (.cons _ (.swap _ _ _))))
   ·refine stepW_ef _ rfl rfl hF hS rfl (ef_allocA ty54) ?_
    clear hF hS; rintro _ _ _ a w ⟨b_1_13, rfl, rfl, rfl⟩ hF hS
    refine ⟨⟨.inr (hS.k1 (sQ.n.n.n)), .inr hS.k0, .inr (hS.k1 (sQ.n.n.n)), .inr hS.k0, .inr (hS.k1 (sQ.n.n.n)), .inr hS.k0, .inr (hS.k1 (sQ.n.n.n)), .inr hS.k0, trivial⟩, ?_⟩
    refine gQ 4 rfl rfl hF hS rfl (ef_bslice0 ty24 ty75) ?_
    clear hF hS; rintro v_1_4 _ _ a w ⟨rfl, rfl⟩ hF hS
    refine ⟨⟨.inr (hS.k1 (sQ.n.n.n.n)), .inr hS.k0, .inr (hS.k1 (sQ.n.n.n.n)), .inr hS.k0, .inr (hS.k1 (sQ.n.n.n.n)), .inr hS.k0, .inr (hS.k1 (sQ.n.n.n.n)), .inr hS.k0, trivial⟩, ?_⟩
    refine gQ 7 rfl rfl hF hS rfl (ef_append ty24 ty75 0 rfl rfl rfl (src_slK ty24 hb zin0 (by decide)) bQ rfl (by decide)) ?_
    clear hF hS; rintro v_1_7 _ _ a w ⟨rfl, rfl⟩ hF hS
    refine ⟨⟨.inr (hS.k1 (sQ.n.n.n.n)), .inr hS.k0, iQ, iQ, .inr (hS.k1 (sQ.n.n.n.n)), .inr hS.k0, .inr (hS.k1 (sQ.n.n.n.n)), .inr hS.k0, trivial⟩, ?_⟩
    refine gQ 11 rfl rfl hF hS rfl (ef_append ty48 ty29 2 rfl rfl rfl (src_slA ty48 hsd zin0 (by decide)) bQ rfl (by decide)) ?_
    clear hF hS; rintro v_1_11 _ _ a w ⟨rfl, rfl⟩ hF hS
    refine ⟨⟨iQ, iQ, iQ, iQ, .inr (hS.k1 (sQ.n.n.n.n)), .inr hS.k0, .inr (hS.k1 (sQ.n.n.n.n)), .inr hS.k0, trivial⟩, ?_⟩
    refine goW_take 12 _ rfl kQ rfl hF (hS.keep sQ (zQ.k.n.k)) (q_buildS1 ty54 4 kQ rfl rfl (oc_cons rfl (oc_cons rfl (oc_cons (row_one (hS.own _ (List.mem_of_getElem? (i := 0) rfl)).1) (oc_cons (row_one (hS.own _ (List.mem_of_getElem? (i := 2) rfl)).1) oc_nil)))) rfl rfl) ?_
    clear hF; intro a hF
    refine gQ 14 rfl rfl hF hS rfl (ef_storeW ty54 1 rfl rfl rfl rfl bQ (oc_cons rfl (oc_cons rfl (oc_cons (row_one (hS.own _ (List.mem_of_getElem? (i := 0) rfl)).1) (oc_cons (row_one (hS.own _ (List.mem_of_getElem? (i := 2) rfl)).1) oc_nil)))) bQ) ?_
    clear hF hS; rintro _ _ _ a w ⟨rfl, rfl, rfl⟩ hF hS
    refine ⟨⟨iQ, iQ, iQ, iQ, iQ, iQ, iQ, iQ, iQ, trivial⟩, ?_⟩
    exact goW_done kQ (j5_mk v_1_4 v_1_7 v_1_8 v_1_11 b_1_13 (trivial) (hF.sub (L' := [(1, _), (2, _), (6, _), (7, _)]) ⟨rfl, rfl, rfl, rfl, trivial⟩) ((hS.perm (.swap _ _ _)).perm (.cons _ (.swap _ _ _))))
  ·refine stepW_ef _ rfl rfl hF hS rfl (ef_allocA ty54) ?_
   clear hF hS; rintro _ _ _ a w ⟨b_1_13, rfl, rfl, rfl⟩ hF hS
   refine ⟨⟨.inr (hS.k1 (sQ.n.n)), .inr hS.k0, .inr (hS.k1 (sQ.n.n)), .inr hS.k0, .inr (hS.k1 (sQ.n.n)), .inr hS.k0, .inr (hS.k1 (sQ.n.n)), .inr hS.k0, trivial⟩, ?_⟩
   refine goW_fork [4, 8] kQ rfl ⟨?_, ?_, trivial⟩
   ·refine stepW_ef _ rfl rfl hF hS rfl (ef_bslice0 ty24 ty75) ?_
    clear hF hS; rintro v_1_4 _ _ a w ⟨rfl, rfl⟩ hF hS
    refine ⟨⟨.inr (hS.k1 (sQ.n.n.n)), .inr hS.k0, .inr (hS.k1 (sQ.n.n.n)), .inr hS.k0, .inr (hS.k1 (sQ.n.n.n)), .inr hS.k0, .inr (hS.k1 (sQ.n.n.n)), .inr hS.k0, trivial⟩, ?_⟩
    refine goW_fork [7, 8] kQ rfl ⟨?_, ?_, trivial⟩
    ·refine stepW_ef _ rfl rfl hF hS rfl (ef_append ty24 ty75 0 rfl rfl rfl (src_slK ty24 hb zin0 (by decide)) bQ rfl (by decide)) ?_
     clear hF hS; rintro v_1_7 _ _ a w ⟨rfl, rfl⟩ hF hS
     refine ⟨⟨.inr (hS.k1 (sQ.n.n.n)), .inr hS.k0, iQ, iQ, .inr (hS.k1 (sQ.n.n.n)), .inr hS.k0, .inr (hS.k1 (sQ.n.n.n)), .inr hS.k0, trivial⟩, ?_⟩
     refine gQ 8 rfl rfl hF hS rfl (ef_bslice0 ty48 ty29) ?_
     clear hF hS; rintro v_1_8 _ _ a w ⟨rfl, rfl⟩ hF hS
     refine ⟨⟨.inr (hS.k1 (sQ.n.n.n.n)), .inr hS.k0, iQ, iQ, .inr (hS.k1 (sQ.n.n.n.n)), .inr hS.k0, .inr (hS.k1 (sQ.n.n.n.n)), .inr hS.k0, trivial⟩, ?_⟩
     refine gQ 11 rfl rfl hF hS rfl (ef_append ty48 ty29 0 rfl rfl rfl (src_slA ty48 hsd zin0 (by decide)) bQ rfl (by decide)) ?_
     clear hF hS; rintro v_1_11 _ _ a w ⟨rfl, rfl⟩ hF hS
     refine ⟨⟨iQ, iQ, iQ, iQ, .inr (hS.k1 (sQ.n.n.n.n)), .inr hS.k0, .inr (hS.k1 (sQ.n.n.n.n)), .inr hS.k0, trivial⟩, ?_⟩
     refine goW_take 12 _ rfl kQ rfl hF (hS.keep sQ (zQ.k.k)) (q_buildS1 ty54 4 kQ rfl rfl (oc_cons rfl (oc_cons rfl (oc_cons (row_one (hS.own _ (List.mem_of_getElem? (i := 1) rfl)).1) (oc_cons (row_one (hS.own _ (List.mem_of_getElem? (i := 0) rfl)).1) oc_nil)))) rfl rfl) ?_
     clear hF; intro a hF
     refine gQ 14 rfl rfl hF hS rfl (ef_storeW ty54 2 rfl rfl rfl rfl bQ (oc_cons rfl (oc_cons rfl (oc_cons (row_one (hS.own _ (List.mem_of_getElem? (i := 1) rfl)).1) (oc_cons (row_one (hS.own _ (List.mem_of_getElem? (i := 0) rfl)).1) oc_nil)))) bQ) ?_
     clear hF hS; rintro _ _ _ a w ⟨rfl, rfl, rfl⟩ hF hS
     refine ⟨⟨iQ, iQ, iQ, iQ, iQ, iQ, iQ, iQ, iQ, trivial⟩, ?_⟩
     exact goW_done kQ (j5_mk v_1_4 v_1_7 v_1_8 v_1_11 b_1_13 (trivial) (hF.sub (L' := [(1, _), (2, _), (6, _), (7, _)]) ⟨rfl, rfl, rfl, rfl, trivial⟩) ((hS.perm (.cons _ (.swap _ _ _))).perm (.swap _ _ _)))
    ·refine stepW_ef _ rfl rfl hF hS rfl (ef_bslice0 ty48 ty29) ?_
     clear hF hS; rintro v_1_8 _ _ a w ⟨rfl, rfl⟩ hF hS
     refine ⟨⟨.inr (hS.k1 (sQ.n.n.n.n)), .inr hS.k0, .inr (hS.k1 (sQ.n.n.n.n)), .inr hS.k0, .inr (hS.k1 (sQ.n.n.n.n)), .inr hS.k0, .inr (hS.k1 (sQ.n.n.n.n)), .inr hS.k0, trivial⟩, ?_⟩
     refine gQ 7 rfl rfl hF hS rfl (ef_append ty24 ty75 1 rfl rfl rfl (src_slK ty24 hb zin0 (by decide)) bQ rfl (by decide)) ?_
     clear hF hS; rintro v_1_7 _ _ a w ⟨rfl, rfl⟩ hF hS
     refine ⟨⟨.inr (hS.k1 (sQ.n.n.n.n)), .inr hS.k0, iQ, iQ, .inr (hS.k1 (sQ.n.n.n.n)), .inr hS.k0, .inr (hS.k1 (sQ.n.n.n.n)), .inr hS.k0, trivial⟩, ?_⟩
     refine gQ 11 rfl rfl hF hS rfl (ef_append ty48 ty29 0 rfl rfl rfl (src_slA ty48 hsd zin0 (by decide)) bQ rfl (by decide)) ?_
     clear hF hS; rintro v_1_11 _ _ a w ⟨rfl, rfl⟩ hF hS
     refine ⟨⟨iQ, iQ, iQ, iQ, .inr (hS.k1 (sQ.n.n.n.n)), .inr hS.k0, .inr (hS.k1 (sQ.n.n.n.n)), .inr hS.k0, trivial⟩, ?_⟩
     refine goW_take 12 _ rfl kQ rfl hF (hS.keep sQ (zQ.k.k)) (q_buildS1 ty54 4 kQ rfl rfl (oc_cons rfl (oc_cons rfl (oc_cons (row_one (hS.own _ (List.mem_of_getElem? (i := 1) rfl)).1) (oc_cons (row_one (hS.own _ (List.mem_of_getElem? (i := 0) rfl)).1) oc_nil)))) rfl rfl) ?_
     clear hF; intro a hF
     refine gQ 14 rfl rfl hF hS rfl (ef_storeW ty54 2 rfl rfl rfl rfl bQ (oc_cons rfl (oc_cons rfl (oc_cons (row_one (hS.own _ (List.mem_of_getElem? (i := 1) rfl)).1) (oc_cons (row_one (hS.own _ (List.mem_of_getElem? (i := 0) rfl)).1) oc_nil)))) bQ) ?_
     clear hF hS; rintro _ _ _ a w ⟨rfl, rfl, rfl⟩ hF hS
     refine ⟨⟨iQ, iQ, iQ, iQ, iQ, iQ, iQ, iQ, iQ, trivial⟩, ?_⟩
     exact goW_done kQ (j5_mk v_1_4 v_1_7 v_1_8 v_1_11 b_1_13 (trivial) (hF.sub (L' := [(1, _), (2, _), (6, _), (7, _)]) ⟨rfl, rfl, rfl, rfl, trivial⟩) ((hS.perm (.cons _ (.swap _ _ _))).perm (.swap _ _ _)))
   ·refine stepW_ef _ rfl rfl hF hS rfl (ef_bslice0 ty48 ty29) ?_
    clear hF hS; rintro v_1_8 _ _ a w ⟨rfl, rfl⟩ hF hS
    refine ⟨⟨.inr (hS.k1 (sQ.n.n.n)), .inr hS.k0, .inr (hS.k1 (sQ.n.n.n)), .inr hS.k0, .inr (hS.k1 (sQ.n.n.n)), .inr hS.k0, .inr (hS.k1 (sQ.n.n.n)), .inr hS.k0, trivial⟩, ?_⟩
    refine gQ 4 rfl rfl hF hS rfl (ef_bslice0 ty24 ty75) ?_
    clear hF hS; rintro v_1_4 _ _ a w ⟨rfl, rfl⟩ hF hS
    refine ⟨⟨.inr (hS.k1 (sQ.n.n.n.n)), .inr hS.k0, .inr (hS.k1 (sQ.n.n.n.n)), .inr hS.k0, .inr (hS.k1 (sQ.n.n.n.n)), .inr hS.k0, .inr (hS.k1 (sQ.n.n.n.n)), .inr hS.k0, trivial⟩, ?_⟩
    refine gQ 7 rfl rfl hF hS rfl (ef_append ty24 ty75 0 rfl rfl rfl (src_slK ty24 hb zin0 (by decide)) bQ rfl (by decide)) ?_
    clear hF hS; rintro v_1_7 _ _ a w ⟨rfl, rfl⟩ hF hS
    refine ⟨⟨.inr (hS.k1 (sQ.n.n.n.n)), .inr hS.k0, iQ, iQ, .inr (hS.k1 (sQ.n.n.n.n)), .inr hS.k0, .inr (hS.k1 (sQ.n.n.n.n)), .inr hS.k0, trivial⟩, ?_⟩
    refine gQ 11 rfl rfl hF hS rfl (ef_append ty48 ty29 1 rfl rfl rfl (src_slA ty48 hsd zin0 (by decide)) bQ rfl (by decide)) ?_
    clear hF hS; rintro v_1_11 _ _ a w ⟨rfl, rfl⟩ hF hS
    refine ⟨⟨iQ, iQ, iQ, iQ, .inr (hS.k1 (sQ.n.n.n.n)), .inr hS.k0, .inr (hS.k1 (sQ.n.n.n.n)), .inr hS.k0, trivial⟩, ?_⟩
    refine goW_take 12 _ rfl kQ rfl hF (hS.keep sQ (zQ.k.k)) (q_buildS1 ty54 4 kQ rfl rfl (oc_cons rfl (oc_cons rfl (oc_cons (row_one (hS.own _ (List.mem_of_getElem? (i := 0) rfl)).1) (oc_cons (row_one (hS.own _ (List.mem_of_getElem? (i := 1) rfl)).1) oc_nil)))) rfl rfl) ?_
    clear hF; intro a hF
    refine gQ 14 rfl rfl hF hS rfl (ef_storeW ty54 2 rfl rfl rfl rfl bQ (oc_cons rfl (oc_cons rfl (oc_cons (row_one (hS.own _ (List.mem_of_getElem? (i := 0) rfl)).1) (oc_cons (row_one (hS.own _ (List.mem_of_getElem? (i := 1) rfl)).1) oc_nil)))) bQ) ?_
    clear hF hS; rintro _ _ _ a w ⟨rfl, rfl, rfl⟩ hF hS
    refine ⟨⟨iQ, iQ, iQ, iQ, iQ, iQ, iQ, iQ, iQ, trivial⟩, ?_⟩
    exact goW_done kQ (j5_mk v_1_4 v_1_7 v_1_8 v_1_11 b_1_13 (trivial) (hF.sub (L' := [(1, _), (2, _), (6, _), (7, _)]) ⟨rfl, rfl, rfl, rfl, trivial⟩) (((hS.perm (.cons _ (.swap _ _ _))).perm (.swap _ _ _)).perm (.cons _ (.swap _ _ _))))
 rintro a w ⟨v_1_4, v_1_7, v_1_8, v_1_11, b_1_13, -, hF, hS⟩
 (try dsimp only at hF); (try dsimp only at hS)
 replace hS := hS.perm (.cons _ (.swap _ _ _))
 replace hS := hS.perm (.swap _ _ _)
 replace hS := hS.rowEq (m' := ql.length) (cs' := ql.flatMap kvC) (by simp) (by simp)
 replace hS := hS.perm (.cons _ (.swap _ _ _))
 replace hS := hS.perm (.swap _ _ _)
 replace hS := hS.rowEq (m' := qd.length) (cs' := qd.flatten.map vb) (by simp) (by simp)
 replace hS : St _ [] [_, _, _, _, _] _ := hS
 refine hK2 _ _ ?_
 clear hK2
 refine wp_seq_k ?_; intro K3 hK3
 refine reg hF hS (sq rfl (q_move rfl) <|
   sq rfl (q_fieldAddr ty54 rfl rfl (s' := 0) kQ) <|
   sq rfl (q_ld_blk1 ty24 2 rfl rfl rfl rfl) <|
   sq rfl (q_len_row ty24 1 rfl rfl) <|
   sq rfl (q_max rfl rfl) <|
   sq rfl (q_call fn17 rfl (fun w hS => arnd_ct _ _ (by omega) (by omega) w ) (fun _ _ _ h => h)) <|
   sq rfl (q_assign rfl) <|
   sq_end) ?_
 clear hF hS; intro a w hF hS
 refine hK3 _ _ ?_
 clear hK3
 refine wp_seq_k ?_; intro K4 hK4
 refine reg hF hS (sq rfl (q_move rfl) <|
   sq rfl (q_fieldAddr ty54 rfl rfl (s' := 0) kQ) <|
   sq rfl (q_ld_blk1 ty48 2 rfl rfl rfl rfl) <|
   sq rfl (q_len_row ty48 0 rfl rfl) <|
   sq rfl (q_max rfl rfl) <|
   sq rfl (q_call fn17 rfl (fun w hS => arnd_ct _ _ (by omega) (by omega) w ) (fun _ _ _ h => h)) <|
   sq rfl (q_assign rfl) <|
   sq_end) ?_
 clear hF hS; intro a w hF hS
 refine hK4 _ _ ?_
 clear hK4
 refine wp_seq_k ?_; intro K5 hK5
 refine wp_seq_k ?_; intro K6 hK6
 refine reg hF hS (sq rfl (q_move rfl) <|
   sq rfl (q_call fn17 rfl (fun w hS => arnd_ct _ _ (by omega) (by omega) w ) (fun _ _ _ h => h)) <|
   sq_end) ?_
 clear hF hS; intro a w hF hS
 refine hK6 _ _ ?_
 clear hK6
 refine wp_block ?_
 refine wp_seq_k ?_; intro K7 hK7
 refine reg hF hS (sq rfl (q_eqi rfl rfl) <|
   sq rfl (q_assign rfl) <|
   sq_end) ?_
 clear hF hS; intro a w hF hS
 refine hK7 _ _ ?_
 clear hK7
 refine wp_ifd hF rfl (fun hc1 => ?_) (fun hc1 => ?_)
 ·have hkb := Gu.arnd_range (n := b) (m := 5) (by omega)
  refine regt 7 mixed kQ hF hS (sq rfl (q_fieldAddr ty54 rfl rfl (s' := 0) kQ) <|
    sq rfl (q_ld_blk1 ty3 2 rfl rfl rfl rfl) <|
    sq rfl (q_move rfl) <|
    sq rfl (q_call fn17 rfl (fun w hS => arnd_ct _ _ (by omega) (by omega) w ) (fun _ _ _ h => h)) <|
    sq rfl (q_addiW rfl rfl) <|
    sq rfl (q_subiW rfl rfl) <|
    sq rfl (q_fieldAddr ty54 rfl rfl (s' := 0) kQ) <|
    sq_end) ?_
  clear hF hS; intro a w hF hS
  refine wpl_ef hF hS rfl (ef_store1 ty3 2 rfl rfl rfl rfl (by simp)) ?_
  clear hF hS; rintro _ _ _ a w ⟨rfl, rfl, rfl⟩ hF hS
  replace hS : St _ [] [_, _, .blk _ _ ([_, _, _, _].set 0 _), _, _] _ := hS
  simp only [List.set_cons_zero, List.set_cons_succ] at hS
  replace hS : St _ [] [_, _, _, _, _] _ := hS
  refine wpList_nil ?_
  refine hK5 _ _ ?_
  clear hK5
  refine wp_seq_k ?_; intro K8 hK8
  refine regl ?_
  refine wpl_sq hF hS (sq rfl (q_ld_blkW ty54 2 rfl rfl bQ rfl) <|
    sq_end) ?_
  clear hF hS; intro a w hF hS
  refine wpl_ef hF hS rfl (ef_storeW ty54 3 rfl rfl rfl rfl bQ (oc_cons rfl (oc_cons rfl (oc_cons (row_one (hS.own _ (List.mem_of_getElem? (i := 1) rfl)).1) (oc_cons (row_one (hS.own _ (List.mem_of_getElem? (i := 0) rfl)).1) oc_nil)))) bQ) ?_
  clear hF hS; rintro _ _ _ a w ⟨rfl, rfl, rfl⟩ hF hS
  replace hS : St _ [] [_, _, _, _, _] _ := hS
  refine wpList_nil ?_
  refine hK8 _ _ ?_
  clear hK8
  refine wp_ret ?_
  have hnb := Mk.bent_sm hsm how b
  rw [show Mk.bent ⟨qf, qs, ql, qd⟩ how b = ⟨wr (wr (qf + Gu.arnd b 5) - 2), qs, ql, qd⟩ from by unfold Mk.bent; dsimp only; rw [if_pos hc1]] at hnb
  obtain ⟨hn1, hn2, hn3, hn4⟩ := hnb
  dsimp only at hn1 hn2 hn3 hn4
  replace hS := hS.perm (.swap _ _ _)
  obtain ⟨zk, hzk, hS⟩ := St.freezeF (xs := ql) (hS.rowEq (m' := List.length (ql)) (cs' := List.flatMap kvC (ql)) (rfl) (rfl)) rfl (by omega) (fun x hx => by have := hn3 x hx; exact ⟨by omega, by omega⟩)
  replace hS : St _ [_] [_, _, _, _] _ := hS
  obtain ⟨zm, hzm, hS⟩ := St.freezeA (m := 16) (l := qd) (hS.rowEq (m' := List.length (qd)) (cs' := List.map vb (List.flatten (qd))) (rfl) (rfl)) rfl (by omega) (hn4)
  replace hS : St _ [_, _] [_, _, _] _ := hS
  replace hS := hS.zone00
  replace hS : St _ [_, _, _] [_, _, _] _ := hS
  obtain ⟨zu, hzu, hS⟩ := hS.union
  exact fn_ret (rs := [.cell 6 54]) rfl hF hS (vs := [_]) ⟨⟨_, _, _, _, _, _, _, rfl, List.mem_of_getElem? (i := 1) rfl, ty54, .inl ⟨rfl, bQ, rfl⟩⟩, trivial⟩ (zs' := [zu]) (hs' := []) (List.singleton_sublist.2 (by simp)) zQ (pf_of (q := ⟨wr (wr (qf + Gu.arnd b 5) - 2), qs, ql, qd⟩) ⟨_, _, zu, rfl, Sl.mono (hzu _ (by simp)) hzk, Sl.mono (hzu _ (by simp)) hzm, rfl, rfl⟩ (by unfold Mk.bent; dsimp only; rw [if_pos hc1]))
 ·refine wp_seq_k ?_; intro K9 hK9
  refine reg hF hS (sq rfl (q_eqi rfl rfl) <|
    sq rfl (q_assign rfl) <|
    sq_end) ?_
  clear hF hS; intro a w hF hS
  refine hK9 _ _ ?_
  clear hK9
  refine wp_ifd hF rfl (fun hc2 => ?_) (fun hc2 => ?_)
  ·have hkb := Gu.arnd_range (n := b) (m := 5) (by omega)
   refine regt 7 mixed kQ hF hS (sq rfl (q_fieldAddr ty54 rfl rfl (s' := 0) kQ) <|
     sq rfl (q_ld_blk1 ty3 2 rfl rfl rfl rfl) <|
     sq rfl (q_move rfl) <|
     sq rfl (q_call fn17 rfl (fun w hS => arnd_ct _ _ (by omega) (by omega) w ) (fun _ _ _ h => h)) <|
     sq rfl (q_addiW rfl rfl) <|
     sq rfl (q_subiW rfl rfl) <|
     sq rfl (q_fieldAddr ty54 rfl rfl (s' := 0) kQ) <|
     sq_end) ?_
   clear hF hS; intro a w hF hS
   refine wpl_ef hF hS rfl (ef_store1 ty3 2 rfl rfl rfl rfl (by simp)) ?_
   clear hF hS; rintro _ _ _ a w ⟨rfl, rfl, rfl⟩ hF hS
   replace hS : St _ [] [_, _, .blk _ _ ([_, _, _, _].set 1 _), _, _] _ := hS
   simp only [List.set_cons_zero, List.set_cons_succ] at hS
   replace hS : St _ [] [_, _, _, _, _] _ := hS
   refine wpList_nil ?_
   refine hK5 _ _ ?_
   clear hK5
   refine wp_seq_k ?_; intro K10 hK10
   refine regl ?_
   refine wpl_sq hF hS (sq rfl (q_ld_blkW ty54 2 rfl rfl bQ rfl) <|
     sq_end) ?_
   clear hF hS; intro a w hF hS
   refine wpl_ef hF hS rfl (ef_storeW ty54 3 rfl rfl rfl rfl bQ (oc_cons rfl (oc_cons rfl (oc_cons (row_one (hS.own _ (List.mem_of_getElem? (i := 1) rfl)).1) (oc_cons (row_one (hS.own _ (List.mem_of_getElem? (i := 0) rfl)).1) oc_nil)))) bQ) ?_
   clear hF hS; rintro _ _ _ a w ⟨rfl, rfl, rfl⟩ hF hS
   replace hS : St _ [] [_, _, _, _, _] _ := hS
   refine wpList_nil ?_
   refine hK10 _ _ ?_
   clear hK10
   refine wp_ret ?_
   have hnb := Mk.bent_sm hsm how b
   rw [show Mk.bent ⟨qf, qs, ql, qd⟩ how b = ⟨qf, wr (wr (qs + Gu.arnd b 5) - 2), ql, qd⟩ from by unfold Mk.bent; dsimp only; rw [if_neg hc1, if_pos hc2]] at hnb
   obtain ⟨hn1, hn2, hn3, hn4⟩ := hnb
   dsimp only at hn1 hn2 hn3 hn4
   replace hS := hS.perm (.swap _ _ _)
   obtain ⟨zk, hzk, hS⟩ := St.freezeF (xs := ql) (hS.rowEq (m' := List.length (ql)) (cs' := List.flatMap kvC (ql)) (rfl) (rfl)) rfl (by omega) (fun x hx => by have := hn3 x hx; exact ⟨by omega, by omega⟩)
   replace hS : St _ [_] [_, _, _, _] _ := hS
   obtain ⟨zm, hzm, hS⟩ := St.freezeA (m := 16) (l := qd) (hS.rowEq (m' := List.length (qd)) (cs' := List.map vb (List.flatten (qd))) (rfl) (rfl)) rfl (by omega) (hn4)
   replace hS : St _ [_, _] [_, _, _] _ := hS
   replace hS := hS.zone00
   replace hS : St _ [_, _, _] [_, _, _] _ := hS
   obtain ⟨zu, hzu, hS⟩ := hS.union
   exact fn_ret (rs := [.cell 6 54]) rfl hF hS (vs := [_]) ⟨⟨_, _, _, _, _, _, _, rfl, List.mem_of_getElem? (i := 1) rfl, ty54, .inl ⟨rfl, bQ, rfl⟩⟩, trivial⟩ (zs' := [zu]) (hs' := []) (List.singleton_sublist.2 (by simp)) zQ (pf_of (q := ⟨qf, wr (wr (qs + Gu.arnd b 5) - 2), ql, qd⟩) ⟨_, _, zu, rfl, Sl.mono (hzu _ (by simp)) hzk, Sl.mono (hzu _ (by simp)) hzm, rfl, rfl⟩ (by unfold Mk.bent; dsimp only; rw [if_neg hc1, if_pos hc2]))
  ·refine wp_seq_k ?_; intro K11 hK11
   refine reg hF hS (sq rfl (q_eqi rfl rfl) <|
     sq rfl (q_assign rfl) <|
     sq_end) ?_
   clear hF hS; intro a w hF hS
   refine hK11 _ _ ?_
   clear hK11
   refine wp_ifd hF rfl (fun hc3 => ?_) (fun hc3 => ?_)
   ·have hkb := Gu.arnd_range (n := b) (m := 4) (by omega)
    refine regl ?_
    refine wpl_sq hF hS (sq rfl (q_move rfl) <|
      sq_end) ?_
    clear hF hS; intro a w hF hS
    refine wpl_ef hF hS rfl (ef_bsliceA ty22 ty3 rfl rfl oQ (by decide) rfl rfl) ?_
    clear hF hS; rintro v3 _ _ a w ⟨rfl, rfl⟩ hF hS
    replace hS : St _ [] [_, _, _, _, _, _] _ := hS
    refine wpl_sq hF hS (sq rfl (q_move rfl) <|
      sq rfl (q_call fn17 rfl (fun w hS => arnd_ct _ _ (by omega) (by omega) w ) (fun _ _ _ h => h)) <|
      sq rfl (q_idx_row ty22 ty3 0 rfl rfl rfl (by omega)) <|
      sq rfl (q_ld_rowM (f := vi) (xs := [b, 4096, 4097, -1]) ty3 0 0 rfl rfl (by show _ < 4; omega) rfl) <|
      sq rfl (q_fieldAddr ty54 rfl rfl (s' := 0) kQ) <|
      sq_end) ?_
    clear hF hS; intro a w hF hS
    refine wpl_ef hF hS rfl (ef_store1 ty3 3 rfl rfl rfl rfl (by simp)) ?_
    clear hF hS; rintro _ _ _ a w ⟨rfl, rfl, rfl⟩ hF hS
    replace hS : St _ [] [_, _, _, .blk _ _ ([_, _, _, _].set 1 _), _, _] _ := hS
    simp only [List.set_cons_zero, List.set_cons_succ] at hS
    replace hS : St _ [] [_, _, _, _, _, _] _ := hS
    refine wpList_nil ?_
    refine hK5 _ _ ?_
    clear hK5
    refine wp_seq_k ?_; intro K12 hK12
    refine regl ?_
    refine wpl_sq hF hS (sq rfl (q_ld_blkW ty54 3 rfl rfl bQ rfl) <|
      sq_end) ?_
    clear hF hS; intro a w hF hS
    refine wpl_ef hF hS rfl (ef_storeW ty54 4 rfl rfl rfl rfl bQ (oc_cons rfl (oc_cons rfl (oc_cons (row_one (hS.own _ (List.mem_of_getElem? (i := 2) rfl)).1) (oc_cons (row_one (hS.own _ (List.mem_of_getElem? (i := 1) rfl)).1) oc_nil)))) bQ) ?_
    clear hF hS; rintro _ _ _ a w ⟨rfl, rfl, rfl⟩ hF hS
    replace hS : St _ [] [_, _, _, _, _, _] _ := hS
    refine wpList_nil ?_
    refine hK12 _ _ ?_
    clear hK12
    refine wp_ret ?_
    have hnb := Mk.bent_sm hsm how b
    rw [show Mk.bent ⟨qf, qs, ql, qd⟩ how b = ⟨qf, ([b, 4096, 4097, -1].getD (Gu.arnd b 4).toNat 0), ql, qd⟩ from by unfold Mk.bent; dsimp only; rw [if_neg hc1, if_neg hc2, if_pos hc3]] at hnb
    obtain ⟨hn1, hn2, hn3, hn4⟩ := hnb
    dsimp only at hn1 hn2 hn3 hn4
    replace hS := hS.perm (.cons _ (.swap _ _ _))
    replace hS := hS.perm (.swap _ _ _)
    obtain ⟨zk, hzk, hS⟩ := St.freezeF (xs := ql) (hS.rowEq (m' := List.length (ql)) (cs' := List.flatMap kvC (ql)) (rfl) (rfl)) rfl (by omega) (fun x hx => by have := hn3 x hx; exact ⟨by omega, by omega⟩)
    replace hS : St _ [_] [_, _, _, _, _] _ := hS
    replace hS := hS.perm (.swap _ _ _)
    obtain ⟨zm, hzm, hS⟩ := St.freezeA (m := 16) (l := qd) (hS.rowEq (m' := List.length (qd)) (cs' := List.map vb (List.flatten (qd))) (rfl) (rfl)) rfl (by omega) (hn4)
    replace hS : St _ [_, _] [_, _, _, _] _ := hS
    replace hS := hS.zone00
    replace hS : St _ [_, _, _] [_, _, _, _] _ := hS
    obtain ⟨zu, hzu, hS⟩ := hS.union
    exact fn_ret (rs := [.cell 6 54]) rfl hF hS (vs := [_]) ⟨⟨_, _, _, _, _, _, _, rfl, List.mem_of_getElem? (i := 2) rfl, ty54, .inl ⟨rfl, bQ, rfl⟩⟩, trivial⟩ (zs' := [zu]) (hs' := []) (List.singleton_sublist.2 (by simp)) zQ (pf_of (q := ⟨qf, ([b, 4096, 4097, -1].getD (Gu.arnd b 4).toNat 0), ql, qd⟩) ⟨_, _, zu, rfl, Sl.mono (hzu _ (by simp)) hzk, Sl.mono (hzu _ (by simp)) hzm, rfl, rfl⟩ (by unfold Mk.bent; dsimp only; rw [if_neg hc1, if_neg hc2, if_pos hc3]))
   ·refine wp_seq_k ?_; intro K13 hK13
    refine reg hF hS (sq rfl (q_eqi rfl rfl) <|
      sq rfl (q_assign rfl) <|
      sq_end) ?_
    clear hF hS; intro a w hF hS
    refine hK13 _ _ ?_
    clear hK13
    refine wp_ifd hF rfl (fun hc4 => ?_) (fun hc4 => ?_)
    ·refine regl ?_
     refine wpl_sq hF hS (sq rfl (q_move rfl) <|
       sq rfl (q_fieldAddr ty54 rfl rfl (s' := 0) kQ) <|
       sq_end) ?_
     clear hF hS; intro a w hF hS
     refine wpl_ef hF hS rfl (ef_store1 ty3 2 rfl rfl rfl rfl (by simp)) ?_
     clear hF hS; rintro _ _ _ a w ⟨rfl, rfl, rfl⟩ hF hS
     replace hS : St _ [] [_, _, .blk _ _ ([_, _, _, _].set 0 _), _, _] _ := hS
     simp only [List.set_cons_zero, List.set_cons_succ] at hS
     replace hS : St _ [] [_, _, _, _, _] _ := hS
     refine wpList_nil ?_
     refine hK5 _ _ ?_
     clear hK5
     refine wp_seq_k ?_; intro K14 hK14
     refine regl ?_
     refine wpl_sq hF hS (sq rfl (q_ld_blkW ty54 2 rfl rfl bQ rfl) <|
       sq_end) ?_
     clear hF hS; intro a w hF hS
     refine wpl_ef hF hS rfl (ef_storeW ty54 3 rfl rfl rfl rfl bQ (oc_cons rfl (oc_cons rfl (oc_cons (row_one (hS.own _ (List.mem_of_getElem? (i := 1) rfl)).1) (oc_cons (row_one (hS.own _ (List.mem_of_getElem? (i := 0) rfl)).1) oc_nil)))) bQ) ?_
     clear hF hS; rintro _ _ _ a w ⟨rfl, rfl, rfl⟩ hF hS
     replace hS : St _ [] [_, _, _, _, _] _ := hS
     refine wpList_nil ?_
     refine hK14 _ _ ?_
     clear hK14
     refine wp_ret ?_
     have hnb := Mk.bent_sm hsm how b
     rw [show Mk.bent ⟨qf, qs, ql, qd⟩ how b = ⟨b, qs, ql, qd⟩ from by unfold Mk.bent; dsimp only; rw [if_neg hc1, if_neg hc2, if_neg hc3, if_pos hc4]] at hnb
     obtain ⟨hn1, hn2, hn3, hn4⟩ := hnb
     dsimp only at hn1 hn2 hn3 hn4
     replace hS := hS.perm (.swap _ _ _)
     obtain ⟨zk, hzk, hS⟩ := St.freezeF (xs := ql) (hS.rowEq (m' := List.length (ql)) (cs' := List.flatMap kvC (ql)) (rfl) (rfl)) rfl (by omega) (fun x hx => by have := hn3 x hx; exact ⟨by omega, by omega⟩)
     replace hS : St _ [_] [_, _, _, _] _ := hS
     obtain ⟨zm, hzm, hS⟩ := St.freezeA (m := 16) (l := qd) (hS.rowEq (m' := List.length (qd)) (cs' := List.map vb (List.flatten (qd))) (rfl) (rfl)) rfl (by omega) (hn4)
     replace hS : St _ [_, _] [_, _, _] _ := hS
     replace hS := hS.zone00
     replace hS : St _ [_, _, _] [_, _, _] _ := hS
     obtain ⟨zu, hzu, hS⟩ := hS.union
     exact fn_ret (rs := [.cell 6 54]) rfl hF hS (vs := [_]) ⟨⟨_, _, _, _, _, _, _, rfl, List.mem_of_getElem? (i := 1) rfl, ty54, .inl ⟨rfl, bQ, rfl⟩⟩, trivial⟩ (zs' := [zu]) (hs' := []) (List.singleton_sublist.2 (by simp)) zQ (pf_of (q := ⟨b, qs, ql, qd⟩) ⟨_, _, zu, rfl, Sl.mono (hzu _ (by simp)) hzk, Sl.mono (hzu _ (by simp)) hzm, rfl, rfl⟩ (by unfold Mk.bent; dsimp only; rw [if_neg hc1, if_neg hc2, if_neg hc3, if_pos hc4]))
    ·refine wp_seq_k ?_; intro K15 hK15
     refine reg hF hS (sq rfl (q_eqi rfl rfl) <|
       sq rfl (q_assign rfl) <|
       sq_end) ?_
     clear hF hS; intro a w hF hS
     refine hK15 _ _ ?_
     clear hK15
     refine wp_ifd hF rfl (fun hc5 => ?_) (fun hc5 => ?_)
     ·have hkb := Gu.arnd_range (n := b) (m := 40) (by omega)
      refine wp_seq_k ?_; intro K16 hK16
      refine reg hF hS (sq rfl (q_fieldAddr ty54 rfl rfl (s' := 0) kQ) <|
        sq rfl (q_ld_blk1 ty24 2 rfl rfl rfl rfl) <|
        sq rfl (q_len_row ty24 1 rfl rfl) <|
        sq rfl (q_gti rfl rfl) <|
        sq_end) ?_
      clear hF hS; intro a w hF hS
      refine hK16 _ _ ?_
      clear hK16
      refine wp_ifd hF rfl (fun hc6 => ?_) (fun hc6 => ?_)
      ·have hkl : (Gu.arnd b (max (ql.length : Int) 1)).toNat < ql.length := by omega
       have hxk := hxs _ (Mk.getD_in (xs := ql) (k := (Gu.arnd b (max (ql.length : Int) 1)).toNat) hkl)
       refine regt 8 mixed kQ hF hS (sq rfl (q_fieldAddr ty54 rfl rfl (s' := 0) kQ) <|
         sq rfl (q_ld_blk1 ty24 2 rfl rfl rfl rfl) <|
         sq rfl (q_move rfl) <|
         sq rfl (q_move rfl) <|
         sq rfl (q_call fn17 rfl (fun w hS => arnd_ct _ _ (by omega) (by omega) w ) (fun _ _ _ h => h)) <|
         sq rfl (q_call fn49 rfl (fun w hS => keyB_ct _ (by omega) w ) (fun _ _ _ h => h)) <|
         sq rfl (q_idx_row ty24 ty75 1 rfl rfl rfl (by omega)) <|
         sq rfl (q_fld_row ty75 1 rfl rfl (by omega) rfl (s' := 0) kQ) <|
         sq_end) ?_
       clear hF hS; intro a w hF hS
       refine wpl_ef hF hS rfl (ef_st_rowK (f := kvC) (x' := (Mk.keyB (Gu.arnd b 40), (ql.getD (Gu.arnd b (max (ql.length : Int) 1)).toNat kv0).2)) kvC_len ty9 1 rfl rfl rfl (kget kv0 hkl) (by decide) rfl rfl) ?_
       clear hF hS; rintro _ _ _ a w ⟨rfl, rfl, rfl⟩ hF hS
       replace hS : St _ [] [_, _, _, _, _] _ := hS
       refine wpList_nil ?_
       refine hK5 _ _ ?_
       clear hK5
       refine wp_seq_k ?_; intro K17 hK17
       refine regl ?_
       refine wpl_sq hF hS (sq rfl (q_ld_blkW ty54 2 rfl rfl bQ rfl) <|
         sq_end) ?_
       clear hF hS; intro a w hF hS
       refine wpl_ef hF hS rfl (ef_storeW ty54 3 rfl rfl rfl rfl bQ (oc_cons rfl (oc_cons rfl (oc_cons (row_one (hS.own _ (List.mem_of_getElem? (i := 1) rfl)).1) (oc_cons (row_one (hS.own _ (List.mem_of_getElem? (i := 0) rfl)).1) oc_nil)))) bQ) ?_
       clear hF hS; rintro _ _ _ a w ⟨rfl, rfl, rfl⟩ hF hS
       replace hS : St _ [] [_, _, _, _, _] _ := hS
       refine wpList_nil ?_
       refine hK17 _ _ ?_
       clear hK17
       refine wp_ret ?_
       have hnb := Mk.bent_sm hsm how b
       rw [show Mk.bent ⟨qf, qs, ql, qd⟩ how b = ⟨qf, qs, (ql.set (Gu.arnd b (max (ql.length : Int) 1)).toNat (Mk.keyB (Gu.arnd b 40), (ql.getD (Gu.arnd b (max (ql.length : Int) 1)).toNat kv0).2)), qd⟩ from by unfold Mk.bent; dsimp only; rw [if_neg hc1, if_neg hc2, if_neg hc3, if_neg hc4, if_pos hc5, if_pos (show 0 < ql.length by omega)]; rfl] at hnb
       obtain ⟨hn1, hn2, hn3, hn4⟩ := hnb
       dsimp only at hn1 hn2 hn3 hn4
       replace hS := hS.perm (.swap _ _ _)
       obtain ⟨zk, hzk, hS⟩ := St.freezeF (xs := (ql.set (Gu.arnd b (max (ql.length : Int) 1)).toNat (Mk.keyB (Gu.arnd b 40), (ql.getD (Gu.arnd b (max (ql.length : Int) 1)).toNat kv0).2))) (hS.rowEq (m' := List.length ((ql.set (Gu.arnd b (max (ql.length : Int) 1)).toNat (Mk.keyB (Gu.arnd b 40), (ql.getD (Gu.arnd b (max (ql.length : Int) 1)).toNat kv0).2)))) (cs' := List.flatMap kvC ((ql.set (Gu.arnd b (max (ql.length : Int) 1)).toNat (Mk.keyB (Gu.arnd b 40), (ql.getD (Gu.arnd b (max (ql.length : Int) 1)).toNat kv0).2)))) (by rw [List.length_set]) (rfl)) rfl (by omega) (fun x hx => by have := hn3 x hx; exact ⟨by omega, by omega⟩)
       replace hS : St _ [_] [_, _, _, _] _ := hS
       obtain ⟨zm, hzm, hS⟩ := St.freezeA (m := 16) (l := qd) (hS.rowEq (m' := List.length (qd)) (cs' := List.map vb (List.flatten (qd))) (rfl) (rfl)) rfl (by omega) (hn4)
       replace hS : St _ [_, _] [_, _, _] _ := hS
       replace hS := hS.zone00
       replace hS : St _ [_, _, _] [_, _, _] _ := hS
       obtain ⟨zu, hzu, hS⟩ := hS.union
       exact fn_ret (rs := [.cell 6 54]) rfl hF hS (vs := [_]) ⟨⟨_, _, _, _, _, _, _, rfl, List.mem_of_getElem? (i := 1) rfl, ty54, .inl ⟨rfl, bQ, rfl⟩⟩, trivial⟩ (zs' := [zu]) (hs' := []) (List.singleton_sublist.2 (by simp)) zQ (pf_of (q := ⟨qf, qs, (ql.set (Gu.arnd b (max (ql.length : Int) 1)).toNat (Mk.keyB (Gu.arnd b 40), (ql.getD (Gu.arnd b (max (ql.length : Int) 1)).toNat kv0).2)), qd⟩) ⟨_, _, zu, rfl, Sl.mono (hzu _ (by simp)) hzk, Sl.mono (hzu _ (by simp)) hzm, rfl, rfl⟩ (by unfold Mk.bent; dsimp only; rw [if_neg hc1, if_neg hc2, if_neg hc3, if_neg hc4, if_pos hc5, if_pos (show 0 < ql.length by omega)]; rfl))
      ·refine wp_skip ?_
       refine hK5 _ _ ?_
       clear hK5
       refine wp_seq_k ?_; intro K18 hK18
       refine regl ?_
       refine wpl_sq hF hS (sq rfl (q_ld_blkW ty54 2 rfl rfl bQ rfl) <|
         sq_end) ?_
       clear hF hS; intro a w hF hS
       refine wpl_ef hF hS rfl (ef_storeW ty54 3 rfl rfl rfl rfl bQ (oc_cons rfl (oc_cons rfl (oc_cons (row_one (hS.own _ (List.mem_of_getElem? (i := 1) rfl)).1) (oc_cons (row_one (hS.own _ (List.mem_of_getElem? (i := 0) rfl)).1) oc_nil)))) bQ) ?_
       clear hF hS; rintro _ _ _ a w ⟨rfl, rfl, rfl⟩ hF hS
       replace hS : St _ [] [_, _, _, _, _] _ := hS
       refine wpList_nil ?_
       refine hK18 _ _ ?_
       clear hK18
       refine wp_ret ?_
       have hnb := Mk.bent_sm hsm how b
       rw [show Mk.bent ⟨qf, qs, ql, qd⟩ how b = ⟨qf, qs, ql, qd⟩ from by unfold Mk.bent; dsimp only; rw [if_neg hc1, if_neg hc2, if_neg hc3, if_neg hc4, if_pos hc5, if_neg (show ¬ 0 < ql.length by omega)]] at hnb
       obtain ⟨hn1, hn2, hn3, hn4⟩ := hnb
       dsimp only at hn1 hn2 hn3 hn4
       replace hS := hS.perm (.swap _ _ _)
       obtain ⟨zk, hzk, hS⟩ := St.freezeF (xs := ql) (hS.rowEq (m' := List.length (ql)) (cs' := List.flatMap kvC (ql)) (rfl) (rfl)) rfl (by omega) (fun x hx => by have := hn3 x hx; exact ⟨by omega, by omega⟩)
       replace hS : St _ [_] [_, _, _, _] _ := hS
       obtain ⟨zm, hzm, hS⟩ := St.freezeA (m := 16) (l := qd) (hS.rowEq (m' := List.length (qd)) (cs' := List.map vb (List.flatten (qd))) (rfl) (rfl)) rfl (by omega) (hn4)
       replace hS : St _ [_, _] [_, _, _] _ := hS
       replace hS := hS.zone00
       replace hS : St _ [_, _, _] [_, _, _] _ := hS
       obtain ⟨zu, hzu, hS⟩ := hS.union
       exact fn_ret (rs := [.cell 6 54]) rfl hF hS (vs := [_]) ⟨⟨_, _, _, _, _, _, _, rfl, List.mem_of_getElem? (i := 1) rfl, ty54, .inl ⟨rfl, bQ, rfl⟩⟩, trivial⟩ (zs' := [zu]) (hs' := []) (List.singleton_sublist.2 (by simp)) zQ (pf_of (q := ⟨qf, qs, ql, qd⟩) ⟨_, _, zu, rfl, Sl.mono (hzu _ (by simp)) hzk, Sl.mono (hzu _ (by simp)) hzm, rfl, rfl⟩ (by unfold Mk.bent; dsimp only; rw [if_neg hc1, if_neg hc2, if_neg hc3, if_neg hc4, if_pos hc5, if_neg (show ¬ 0 < ql.length by omega)]))
     ·refine wp_seq_k ?_; intro K19 hK19
      refine reg hF hS (sq rfl (q_eqi rfl rfl) <|
        sq rfl (q_assign rfl) <|
        sq_end) ?_
      clear hF hS; intro a w hF hS
      refine hK19 _ _ ?_
      clear hK19
      refine wp_ifd hF rfl (fun hc7 => ?_) (fun hc7 => ?_)
      ·refine wp_seq_k ?_; intro K20 hK20
       refine reg hF hS (sq rfl (q_fieldAddr ty54 rfl rfl (s' := 0) kQ) <|
         sq rfl (q_ld_blk1 ty24 2 rfl rfl rfl rfl) <|
         sq rfl (q_len_row ty24 1 rfl rfl) <|
         sq rfl (q_gti rfl rfl) <|
         sq_end) ?_
       clear hF hS; intro a w hF hS
       refine hK20 _ _ ?_
       clear hK20
       refine wp_ifd hF rfl (fun hc8 => ?_) (fun hc8 => ?_)
       ·have hkl : (Gu.arnd b (max (ql.length : Int) 1)).toNat < ql.length := by omega
        have hxk := hxs _ (Mk.getD_in (xs := ql) (k := (Gu.arnd b (max (ql.length : Int) 1)).toNat) hkl)
        refine regt 12 mixed kQ hF hS (sq rfl (q_fieldAddr ty54 rfl rfl (s' := 0) kQ) <|
          sq rfl (q_ld_blk1 ty24 2 rfl rfl rfl rfl) <|
          sq rfl (q_move rfl) <|
          sq rfl (q_fieldAddr ty54 rfl rfl (s' := 0) kQ) <|
          sq rfl (q_ld_blk1 ty24 2 rfl rfl rfl rfl) <|
          sq rfl (q_move rfl) <|
          sq rfl (q_idx_row ty24 ty75 1 rfl rfl rfl (by omega)) <|
          sq rfl (q_fld_row ty75 1 rfl rfl (by omega) rfl (s' := 0) kQ) <|
          sq rfl (q_ld_rowK1 (f := kvC) kvC_len kv0 ty9 1 rfl rfl rfl hkl (by decide) rfl) <|
          sq rfl (q_adds (q := [120]) rfl rfl (by rw [show ([120] : List UInt8).length = 1 from rfl]; omega)) <|
          sq rfl (q_idx_row ty24 ty75 1 rfl rfl rfl (by omega)) <|
          sq rfl (q_fld_row ty75 1 rfl rfl (by omega) rfl (s' := 0) kQ) <|
          sq_end) ?_
        clear hF hS; intro a w hF hS
        refine wpl_ef hF hS rfl (ef_st_rowK (f := kvC) (x' := ((ql.getD (Gu.arnd b (max (ql.length : Int) 1)).toNat kv0).1, (ql.getD (Gu.arnd b (max (ql.length : Int) 1)).toNat kv0).2 ++ [120])) kvC_len ty9 1 rfl rfl rfl (kget kv0 hkl) (by decide) rfl rfl) ?_
        clear hF hS; rintro _ _ _ a w ⟨rfl, rfl, rfl⟩ hF hS
        replace hS : St _ [] [_, _, _, _, _] _ := hS
        refine wpList_nil ?_
        refine hK5 _ _ ?_
        clear hK5
        refine wp_seq_k ?_; intro K21 hK21
        refine regl ?_
        refine wpl_sq hF hS (sq rfl (q_ld_blkW ty54 2 rfl rfl bQ rfl) <|
          sq_end) ?_
        clear hF hS; intro a w hF hS
        refine wpl_ef hF hS rfl (ef_storeW ty54 3 rfl rfl rfl rfl bQ (oc_cons rfl (oc_cons rfl (oc_cons (row_one (hS.own _ (List.mem_of_getElem? (i := 1) rfl)).1) (oc_cons (row_one (hS.own _ (List.mem_of_getElem? (i := 0) rfl)).1) oc_nil)))) bQ) ?_
        clear hF hS; rintro _ _ _ a w ⟨rfl, rfl, rfl⟩ hF hS
        replace hS : St _ [] [_, _, _, _, _] _ := hS
        refine wpList_nil ?_
        refine hK21 _ _ ?_
        clear hK21
        refine wp_ret ?_
        have hnb := Mk.bent_sm hsm how b
        rw [show Mk.bent ⟨qf, qs, ql, qd⟩ how b = ⟨qf, qs, (ql.set (Gu.arnd b (max (ql.length : Int) 1)).toNat ((ql.getD (Gu.arnd b (max (ql.length : Int) 1)).toNat kv0).1, (ql.getD (Gu.arnd b (max (ql.length : Int) 1)).toNat kv0).2 ++ [120])), qd⟩ from by unfold Mk.bent; dsimp only; rw [if_neg hc1, if_neg hc2, if_neg hc3, if_neg hc4, if_neg hc5, if_pos hc7, if_pos (show 0 < ql.length by omega)]; rfl] at hnb
        obtain ⟨hn1, hn2, hn3, hn4⟩ := hnb
        dsimp only at hn1 hn2 hn3 hn4
        replace hS := hS.perm (.swap _ _ _)
        obtain ⟨zk, hzk, hS⟩ := St.freezeF (xs := (ql.set (Gu.arnd b (max (ql.length : Int) 1)).toNat ((ql.getD (Gu.arnd b (max (ql.length : Int) 1)).toNat kv0).1, (ql.getD (Gu.arnd b (max (ql.length : Int) 1)).toNat kv0).2 ++ [120]))) (hS.rowEq (m' := List.length ((ql.set (Gu.arnd b (max (ql.length : Int) 1)).toNat ((ql.getD (Gu.arnd b (max (ql.length : Int) 1)).toNat kv0).1, (ql.getD (Gu.arnd b (max (ql.length : Int) 1)).toNat kv0).2 ++ [120])))) (cs' := List.flatMap kvC ((ql.set (Gu.arnd b (max (ql.length : Int) 1)).toNat ((ql.getD (Gu.arnd b (max (ql.length : Int) 1)).toNat kv0).1, (ql.getD (Gu.arnd b (max (ql.length : Int) 1)).toNat kv0).2 ++ [120])))) (by rw [List.length_set]) (rfl)) rfl (by omega) (fun x hx => by have := hn3 x hx; exact ⟨by omega, by omega⟩)
        replace hS : St _ [_] [_, _, _, _] _ := hS
        obtain ⟨zm, hzm, hS⟩ := St.freezeA (m := 16) (l := qd) (hS.rowEq (m' := List.length (qd)) (cs' := List.map vb (List.flatten (qd))) (rfl) (rfl)) rfl (by omega) (hn4)
        replace hS : St _ [_, _] [_, _, _] _ := hS
        replace hS := hS.zone00
        replace hS : St _ [_, _, _] [_, _, _] _ := hS
        obtain ⟨zu, hzu, hS⟩ := hS.union
        exact fn_ret (rs := [.cell 6 54]) rfl hF hS (vs := [_]) ⟨⟨_, _, _, _, _, _, _, rfl, List.mem_of_getElem? (i := 1) rfl, ty54, .inl ⟨rfl, bQ, rfl⟩⟩, trivial⟩ (zs' := [zu]) (hs' := []) (List.singleton_sublist.2 (by simp)) zQ (pf_of (q := ⟨qf, qs, (ql.set (Gu.arnd b (max (ql.length : Int) 1)).toNat ((ql.getD (Gu.arnd b (max (ql.length : Int) 1)).toNat kv0).1, (ql.getD (Gu.arnd b (max (ql.length : Int) 1)).toNat kv0).2 ++ [120])), qd⟩) ⟨_, _, zu, rfl, Sl.mono (hzu _ (by simp)) hzk, Sl.mono (hzu _ (by simp)) hzm, rfl, rfl⟩ (by unfold Mk.bent; dsimp only; rw [if_neg hc1, if_neg hc2, if_neg hc3, if_neg hc4, if_neg hc5, if_pos hc7, if_pos (show 0 < ql.length by omega)]; rfl))
       ·refine wp_skip ?_
        refine hK5 _ _ ?_
        clear hK5
        refine wp_seq_k ?_; intro K22 hK22
        refine regl ?_
        refine wpl_sq hF hS (sq rfl (q_ld_blkW ty54 2 rfl rfl bQ rfl) <|
          sq_end) ?_
        clear hF hS; intro a w hF hS
        refine wpl_ef hF hS rfl (ef_storeW ty54 3 rfl rfl rfl rfl bQ (oc_cons rfl (oc_cons rfl (oc_cons (row_one (hS.own _ (List.mem_of_getElem? (i := 1) rfl)).1) (oc_cons (row_one (hS.own _ (List.mem_of_getElem? (i := 0) rfl)).1) oc_nil)))) bQ) ?_
        clear hF hS; rintro _ _ _ a w ⟨rfl, rfl, rfl⟩ hF hS
        replace hS : St _ [] [_, _, _, _, _] _ := hS
        refine wpList_nil ?_
        refine hK22 _ _ ?_
        clear hK22
        refine wp_ret ?_
        have hnb := Mk.bent_sm hsm how b
        rw [show Mk.bent ⟨qf, qs, ql, qd⟩ how b = ⟨qf, qs, ql, qd⟩ from by unfold Mk.bent; dsimp only; rw [if_neg hc1, if_neg hc2, if_neg hc3, if_neg hc4, if_neg hc5, if_pos hc7, if_neg (show ¬ 0 < ql.length by omega)]] at hnb
        obtain ⟨hn1, hn2, hn3, hn4⟩ := hnb
        dsimp only at hn1 hn2 hn3 hn4
        replace hS := hS.perm (.swap _ _ _)
        obtain ⟨zk, hzk, hS⟩ := St.freezeF (xs := ql) (hS.rowEq (m' := List.length (ql)) (cs' := List.flatMap kvC (ql)) (rfl) (rfl)) rfl (by omega) (fun x hx => by have := hn3 x hx; exact ⟨by omega, by omega⟩)
        replace hS : St _ [_] [_, _, _, _] _ := hS
        obtain ⟨zm, hzm, hS⟩ := St.freezeA (m := 16) (l := qd) (hS.rowEq (m' := List.length (qd)) (cs' := List.map vb (List.flatten (qd))) (rfl) (rfl)) rfl (by omega) (hn4)
        replace hS : St _ [_, _] [_, _, _] _ := hS
        replace hS := hS.zone00
        replace hS : St _ [_, _, _] [_, _, _] _ := hS
        obtain ⟨zu, hzu, hS⟩ := hS.union
        exact fn_ret (rs := [.cell 6 54]) rfl hF hS (vs := [_]) ⟨⟨_, _, _, _, _, _, _, rfl, List.mem_of_getElem? (i := 1) rfl, ty54, .inl ⟨rfl, bQ, rfl⟩⟩, trivial⟩ (zs' := [zu]) (hs' := []) (List.singleton_sublist.2 (by simp)) zQ (pf_of (q := ⟨qf, qs, ql, qd⟩) ⟨_, _, zu, rfl, Sl.mono (hzu _ (by simp)) hzk, Sl.mono (hzu _ (by simp)) hzm, rfl, rfl⟩ (by unfold Mk.bent; dsimp only; rw [if_neg hc1, if_neg hc2, if_neg hc3, if_neg hc4, if_neg hc5, if_pos hc7, if_neg (show ¬ 0 < ql.length by omega)]))
      ·refine wp_seq_k ?_; intro K23 hK23
       refine reg hF hS (sq rfl (q_eqi rfl rfl) <|
         sq rfl (q_assign rfl) <|
         sq_end) ?_
       clear hF hS; intro a w hF hS
       refine hK23 _ _ ?_
       clear hK23
       refine wp_ifd hF rfl (fun hc9 => ?_) (fun hc9 => ?_)
       ·refine wp_seq_k ?_; intro K24 hK24
        refine reg hF hS (sq rfl (q_fieldAddr ty54 rfl rfl (s' := 0) kQ) <|
          sq rfl (q_ld_blk1 ty24 2 rfl rfl rfl rfl) <|
          sq rfl (q_len_row ty24 1 rfl rfl) <|
          sq rfl (q_gti rfl rfl) <|
          sq_end) ?_
        clear hF hS; intro a w hF hS
        refine hK24 _ _ ?_
        clear hK24
        refine wp_ifd hF rfl (fun hc10 => ?_) (fun hc10 => ?_)
        ·have hkl : (Gu.arnd b (max (ql.length : Int) 1)).toNat < ql.length := by omega
         have hxk := hxs _ (Mk.getD_in (xs := ql) (k := (Gu.arnd b (max (ql.length : Int) 1)).toNat) hkl)
         refine regt 9 mixed kQ hF hS (sq rfl (q_fieldAddr ty54 rfl rfl (s' := 0) kQ) <|
           sq rfl (q_ld_blk1 ty24 2 rfl rfl rfl rfl) <|
           sq rfl (q_move rfl) <|
           sq rfl (q_slrowS_hi ty24 ty75 1 rfl rfl rfl (by omega)) <|
           sq rfl (q_fieldAddr ty54 rfl rfl (s' := 0) kQ) <|
           sq rfl (q_ld_blk1 ty24 2 rfl rfl rfl rfl) <|
           sq rfl (q_move rfl) <|
           sq rfl (q_addi rfl rfl (by omega)) <|
           sq rfl (q_slrowS_lo ty24 ty75 1 rfl rfl rfl (by omega)) <|
           sq_end) ?_
         clear hF hS; intro a w hF hS
         refine wpl_ef hF hS rfl (ef_append_cutS ty24 ty75 1 rfl rfl (by omega) rfl (by omega) (by omega) (K_one _ kvC_one) rfl (by decide)) ?_
         clear hF hS; rintro v5 _ _ a w ⟨rfl, rfl⟩ hF hS
         replace hS : St _ [] [_, _, _, _, _] _ := hS
         refine wpl_sq hF hS (sq rfl (q_fieldAddr ty54 rfl rfl (s' := 0) kQ) <|
           sq_end) ?_
         clear hF hS; intro a w hF hS
         refine wpl_ef hF hS rfl (ef_store1 ty24 2 rfl rfl rfl (row_one (hS.own _ (List.mem_of_getElem? (i := 1) rfl)).1) (by simp)) ?_
         clear hF hS; rintro _ _ _ a w ⟨rfl, rfl, rfl⟩ hF hS
         replace hS : St _ [] [_, _, .blk _ _ ([_, _, _, _].set 2 _), _, _] _ := hS
         simp only [List.set_cons_zero, List.set_cons_succ] at hS
         replace hS : St _ [] [_, _, _, _, _] _ := hS
         refine wpList_nil ?_
         refine hK5 _ _ ?_
         clear hK5
         refine wp_seq_k ?_; intro K25 hK25
         refine regl ?_
         refine wpl_sq hF hS (sq rfl (q_ld_blkW ty54 2 rfl rfl bQ rfl) <|
           sq_end) ?_
         clear hF hS; intro a w hF hS
         refine wpl_ef hF hS rfl (ef_storeW ty54 3 rfl rfl rfl rfl bQ (oc_cons rfl (oc_cons rfl (oc_cons (row_one (hS.own _ (List.mem_of_getElem? (i := 1) rfl)).1) (oc_cons (row_one (hS.own _ (List.mem_of_getElem? (i := 0) rfl)).1) oc_nil)))) bQ) ?_
         clear hF hS; rintro _ _ _ a w ⟨rfl, rfl, rfl⟩ hF hS
         replace hS : St _ [] [_, _, _, _, _] _ := hS
         refine wpList_nil ?_
         refine hK25 _ _ ?_
         clear hK25
         refine wp_ret ?_
         have hnb := Mk.bent_sm hsm how b
         rw [show Mk.bent ⟨qf, qs, ql, qd⟩ how b = ⟨qf, qs, (ql.take (Gu.arnd b (max (ql.length : Int) 1)).toNat ++ ql.drop ((Gu.arnd b (max (ql.length : Int) 1)).toNat + 1)), qd⟩ from by unfold Mk.bent; dsimp only; rw [if_neg hc1, if_neg hc2, if_neg hc3, if_neg hc4, if_neg hc5, if_neg hc7, if_pos hc9, if_pos (show 0 < ql.length by omega)]; rfl] at hnb
         obtain ⟨hn1, hn2, hn3, hn4⟩ := hnb
         dsimp only at hn1 hn2 hn3 hn4
         replace hS := hS.perm (.swap _ _ _)
         obtain ⟨zk, hzk, hS⟩ := St.freezeF (xs := (ql.take (Gu.arnd b (max (ql.length : Int) 1)).toNat ++ ql.drop ((Gu.arnd b (max (ql.length : Int) 1)).toNat + 1))) (hS.rowEq (m' := List.length ((ql.take (Gu.arnd b (max (ql.length : Int) 1)).toNat ++ ql.drop ((Gu.arnd b (max (ql.length : Int) 1)).toNat + 1)))) (cs' := List.flatMap kvC ((ql.take (Gu.arnd b (max (ql.length : Int) 1)).toNat ++ ql.drop ((Gu.arnd b (max (ql.length : Int) 1)).toNat + 1)))) (by rw [List.length_append, List.length_take, List.length_drop]; omega) (Mk.kv_cut _ _)) rfl (by omega) (fun x hx => by have := hn3 x hx; exact ⟨by omega, by omega⟩)
         replace hS : St _ [_] [_, _, _, _] _ := hS
         obtain ⟨zm, hzm, hS⟩ := St.freezeA (m := 16) (l := qd) (hS.rowEq (m' := List.length (qd)) (cs' := List.map vb (List.flatten (qd))) (rfl) (rfl)) rfl (by omega) (hn4)
         replace hS : St _ [_, _] [_, _, _] _ := hS
         replace hS := hS.zone00
         replace hS : St _ [_, _, _] [_, _, _] _ := hS
         obtain ⟨zu, hzu, hS⟩ := hS.union
         exact fn_ret (rs := [.cell 6 54]) rfl hF hS (vs := [_]) ⟨⟨_, _, _, _, _, _, _, rfl, List.mem_of_getElem? (i := 1) rfl, ty54, .inl ⟨rfl, bQ, rfl⟩⟩, trivial⟩ (zs' := [zu]) (hs' := []) (List.singleton_sublist.2 (by simp)) zQ (pf_of (q := ⟨qf, qs, (ql.take (Gu.arnd b (max (ql.length : Int) 1)).toNat ++ ql.drop ((Gu.arnd b (max (ql.length : Int) 1)).toNat + 1)), qd⟩) ⟨_, _, zu, rfl, Sl.mono (hzu _ (by simp)) hzk, Sl.mono (hzu _ (by simp)) hzm, rfl, rfl⟩ (by unfold Mk.bent; dsimp only; rw [if_neg hc1, if_neg hc2, if_neg hc3, if_neg hc4, if_neg hc5, if_neg hc7, if_pos hc9, if_pos (show 0 < ql.length by omega)]; rfl))
        ·refine wp_skip ?_
         refine hK5 _ _ ?_
         clear hK5
         refine wp_seq_k ?_; intro K26 hK26
         refine regl ?_
         refine wpl_sq hF hS (sq rfl (q_ld_blkW ty54 2 rfl rfl bQ rfl) <|
           sq_end) ?_
         clear hF hS; intro a w hF hS
         refine wpl_ef hF hS rfl (ef_storeW ty54 3 rfl rfl rfl rfl bQ (oc_cons rfl (oc_cons rfl (oc_cons (row_one (hS.own _ (List.mem_of_getElem? (i := 1) rfl)).1) (oc_cons (row_one (hS.own _ (List.mem_of_getElem? (i := 0) rfl)).1) oc_nil)))) bQ) ?_
         clear hF hS; rintro _ _ _ a w ⟨rfl, rfl, rfl⟩ hF hS
         replace hS : St _ [] [_, _, _, _, _] _ := hS
         refine wpList_nil ?_
         refine hK26 _ _ ?_
         clear hK26
         refine wp_ret ?_
         have hnb := Mk.bent_sm hsm how b
         rw [show Mk.bent ⟨qf, qs, ql, qd⟩ how b = ⟨qf, qs, ql, qd⟩ from by unfold Mk.bent; dsimp only; rw [if_neg hc1, if_neg hc2, if_neg hc3, if_neg hc4, if_neg hc5, if_neg hc7, if_pos hc9, if_neg (show ¬ 0 < ql.length by omega)]] at hnb
         obtain ⟨hn1, hn2, hn3, hn4⟩ := hnb
         dsimp only at hn1 hn2 hn3 hn4
         replace hS := hS.perm (.swap _ _ _)
         obtain ⟨zk, hzk, hS⟩ := St.freezeF (xs := ql) (hS.rowEq (m' := List.length (ql)) (cs' := List.flatMap kvC (ql)) (rfl) (rfl)) rfl (by omega) (fun x hx => by have := hn3 x hx; exact ⟨by omega, by omega⟩)
         replace hS : St _ [_] [_, _, _, _] _ := hS
         obtain ⟨zm, hzm, hS⟩ := St.freezeA (m := 16) (l := qd) (hS.rowEq (m' := List.length (qd)) (cs' := List.map vb (List.flatten (qd))) (rfl) (rfl)) rfl (by omega) (hn4)
         replace hS : St _ [_, _] [_, _, _] _ := hS
         replace hS := hS.zone00
         replace hS : St _ [_, _, _] [_, _, _] _ := hS
         obtain ⟨zu, hzu, hS⟩ := hS.union
         exact fn_ret (rs := [.cell 6 54]) rfl hF hS (vs := [_]) ⟨⟨_, _, _, _, _, _, _, rfl, List.mem_of_getElem? (i := 1) rfl, ty54, .inl ⟨rfl, bQ, rfl⟩⟩, trivial⟩ (zs' := [zu]) (hs' := []) (List.singleton_sublist.2 (by simp)) zQ (pf_of (q := ⟨qf, qs, ql, qd⟩) ⟨_, _, zu, rfl, Sl.mono (hzu _ (by simp)) hzk, Sl.mono (hzu _ (by simp)) hzm, rfl, rfl⟩ (by unfold Mk.bent; dsimp only; rw [if_neg hc1, if_neg hc2, if_neg hc3, if_neg hc4, if_neg hc5, if_neg hc7, if_pos hc9, if_neg (show ¬ 0 < ql.length by omega)]))
       ·refine wp_seq_k ?_; intro K27 hK27
        refine reg hF hS (sq rfl (q_eqi rfl rfl) <|
          sq rfl (q_assign rfl) <|
          sq_end) ?_
        clear hF hS; intro a w hF hS
        refine hK27 _ _ ?_
        clear hK27
        refine wp_ifd hF rfl (fun hc11 => ?_) (fun hc11 => ?_)
        ·have hkb := Gu.arnd_range (n := b) (m := 40) (by omega)
         revert hS; revert hF; apply regJ (J := J2 (α0 := Value) (α1 := Value) 170 _ _ _ _ _) #[false, false, false, false, false, false, false, false, false, false] 10 mixed rfl rfl
         ·intro w hF hS
          refine goW_take 0 _ rfl kQ rfl hF (hS.keep sQ zQ) (q_fieldAddr ty54 rfl rfl (s' := 0) kQ) ?_
          clear hF; intro a hF
          refine goW_take 1 _ rfl kQ rfl hF (hS.keep sQ (zQ.k.n.n)) (q_ld_blk1 ty24 0 rfl rfl rfl rfl) ?_
          clear hF; intro a hF
          refine goW_take 2 _ rfl kQ rfl hF (hS.keep sQ zQ) (q_move rfl) ?_
          clear hF; intro a hF
          refine gQ 3 rfl rfl hF hS rfl (ef_qt (q_call fn17 rfl (fun w hS => arnd_ct _ _ (by omega) (by omega) w ) (fun _ _ _ h => h))) ?_
          clear hF hS; rintro _ _ _ a w ⟨rfl, rfl, rfl⟩ hF hS
          refine ⟨⟨iQ, .inr (hS.k1 (zQ.k.n.n)), .inr hS.k0, trivial⟩, ?_⟩
          refine gQ 4 rfl rfl hF hS rfl (ef_qt (q_call fn49 rfl (fun w hS => keyB_ct _ (by omega) w ) (fun _ _ _ h => h))) ?_
          clear hF hS; rintro _ _ _ a w ⟨rfl, rfl, rfl⟩ hF hS
          refine ⟨⟨iQ, .inr (hS.k1 (zQ.k.n.n)), .inr hS.k0, trivial⟩, ?_⟩
          refine goW_take 5 _ rfl kQ rfl hF (hS.keep sQ zQ) (q_build1 ty75 2 kQ rfl rfl rfl (by decide)) ?_
          clear hF; intro a hF
          refine gQ 6 rfl rfl hF hS rfl (ef_bsliceW ty24 ty75 rfl bQ (by decide) oQ (by decide) (by decide)) ?_
          clear hF hS; rintro v_24_6 _ _ a w ⟨rfl, rfl⟩ hF hS
          refine ⟨⟨iQ, iQ, .inr (hS.k1 (zQ.k.n.n.n)), .inr hS.k0, trivial⟩, ?_⟩
          refine gQ 7 rfl rfl hF hS rfl (ef_append ty24 ty75 2 rfl rfl rfl (src_row ty24 (k := 0) rfl oQ) bQ rfl (by decide)) ?_
          clear hF hS; rintro v_24_7 _ _ a w ⟨rfl, rfl⟩ hF hS
          refine ⟨⟨iQ, iQ, iQ, iQ, trivial⟩, ?_⟩
          refine goW_take 8 _ rfl kQ rfl hF (hS.keep sQ zQ) (q_fieldAddr ty54 rfl rfl (s' := 0) kQ) ?_
          clear hF; intro a hF
          refine gQ 9 rfl rfl hF hS rfl (ef_store1 ty24 3 rfl rfl rfl (row_one (hS.own _ (List.mem_of_getElem? (i := 2) rfl)).1) (by simp)) ?_
          clear hF hS; rintro _ _ _ a w ⟨rfl, rfl, rfl⟩ hF hS
          replace hS : St _ [] [_, _, _, .blk _ _ ([_, _, _, _].set 2 _), _, _] _ := hS
          simp only [List.set_cons_zero, List.set_cons_succ] at hS
          replace hS : St _ [] [_, _, _, _, _, _] _ := hS
          refine ⟨⟨iQ, iQ, iQ, iQ, iQ, trivial⟩, ?_⟩
          exact goW_done kQ (j2_mk v_24_6 v_24_7 (trivial) (hF.sub (L' := [(6, _), (7, _)]) ⟨rfl, rfl, trivial⟩) hS)
         rintro a w ⟨v_24_6, v_24_7, -, hF, hS⟩
         (try dsimp only at hF); (try dsimp only at hS)
         refine hK5 _ _ ?_
         clear hK5
         refine wp_seq_k ?_; intro K28 hK28
         refine regl ?_
         refine wpl_sq hF hS (sq rfl (q_ld_blkW ty54 3 rfl rfl bQ rfl) <|
           sq_end) ?_
         clear hF hS; intro a w hF hS
         refine wpl_ef hF hS rfl (ef_storeW ty54 4 rfl rfl rfl rfl bQ (oc_cons rfl (oc_cons rfl (oc_cons (row_one (hS.own _ (List.mem_of_getElem? (i := 2) rfl)).1) (oc_cons (row_one (hS.own _ (List.mem_of_getElem? (i := 1) rfl)).1) oc_nil)))) bQ) ?_
         clear hF hS; rintro _ _ _ a w ⟨rfl, rfl, rfl⟩ hF hS
         replace hS : St _ [] [_, _, _, _, _, _] _ := hS
         refine wpList_nil ?_
         refine hK28 _ _ ?_
         clear hK28
         refine wp_ret ?_
         have hnb := Mk.bent_sm hsm how b
         rw [show Mk.bent ⟨qf, qs, ql, qd⟩ how b = ⟨qf, qs, (ql ++ [(Mk.keyB (Gu.arnd b 40), [])]), qd⟩ from by unfold Mk.bent; dsimp only; rw [if_neg hc1, if_neg hc2, if_neg hc3, if_neg hc4, if_neg hc5, if_neg hc7, if_neg hc9, if_pos hc11]] at hnb
         obtain ⟨hn1, hn2, hn3, hn4⟩ := hnb
         dsimp only at hn1 hn2 hn3 hn4
         replace hS := hS.perm (.cons _ (.swap _ _ _))
         replace hS := hS.perm (.swap _ _ _)
         obtain ⟨zk, hzk, hS⟩ := St.freezeF (xs := (ql ++ [(Mk.keyB (Gu.arnd b 40), [])])) (hS.rowEq (m' := List.length ((ql ++ [(Mk.keyB (Gu.arnd b 40), [])]))) (cs' := List.flatMap kvC ((ql ++ [(Mk.keyB (Gu.arnd b 40), [])]))) (by rw [List.length_append]; rfl) (by rw [List.flatMap_append]; rfl)) rfl (by omega) (fun x hx => by have := hn3 x hx; exact ⟨by omega, by omega⟩)
         replace hS : St _ [_] [_, _, _, _, _] _ := hS
         replace hS := hS.perm (.swap _ _ _)
         obtain ⟨zm, hzm, hS⟩ := St.freezeA (m := 16) (l := qd) (hS.rowEq (m' := List.length (qd)) (cs' := List.map vb (List.flatten (qd))) (rfl) (rfl)) rfl (by omega) (hn4)
         replace hS : St _ [_, _] [_, _, _, _] _ := hS
         replace hS := hS.zone00
         replace hS : St _ [_, _, _] [_, _, _, _] _ := hS
         obtain ⟨zu, hzu, hS⟩ := hS.union
         exact fn_ret (rs := [.cell 6 54]) rfl hF hS (vs := [_]) ⟨⟨_, _, _, _, _, _, _, rfl, List.mem_of_getElem? (i := 2) rfl, ty54, .inl ⟨rfl, bQ, rfl⟩⟩, trivial⟩ (zs' := [zu]) (hs' := []) (List.singleton_sublist.2 (by simp)) zQ (pf_of (q := ⟨qf, qs, (ql ++ [(Mk.keyB (Gu.arnd b 40), [])]), qd⟩) ⟨_, _, zu, rfl, Sl.mono (hzu _ (by simp)) hzk, Sl.mono (hzu _ (by simp)) hzm, rfl, rfl⟩ (by unfold Mk.bent; dsimp only; rw [if_neg hc1, if_neg hc2, if_neg hc3, if_neg hc4, if_neg hc5, if_neg hc7, if_neg hc9, if_pos hc11]))
        ·refine wp_seq_k ?_; intro K29 hK29
         refine reg hF hS (sq rfl (q_eqi rfl rfl) <|
           sq rfl (q_assign rfl) <|
           sq_end) ?_
         clear hF hS; intro a w hF hS
         refine hK29 _ _ ?_
         clear hK29
         refine wp_ifd hF rfl (fun hc12 => ?_) (fun hc12 => ?_)
         ·refine wp_seq_k ?_; intro K30 hK30
          refine reg hF hS (sq rfl (q_fieldAddr ty54 rfl rfl (s' := 0) kQ) <|
            sq rfl (q_ld_blk1 ty48 2 rfl rfl rfl rfl) <|
            sq rfl (q_len_row ty48 0 rfl rfl) <|
            sq rfl (q_gti rfl rfl) <|
            sq_end) ?_
          clear hF hS; intro a w hF hS
          refine hK30 _ _ ?_
          clear hK30
          refine wp_ifd hF rfl (fun hc13 => ?_) (fun hc13 => ?_)
          ·have hjl : (Gu.arnd b (max (qd.length : Int) 1)).toNat < qd.length := by omega
           have hib := Gu.arnd_range (n := b.tdiv 8) (m := 16) (by omega)
           have hj16 : (Gu.arnd b (max (qd.length : Int) 1)).toNat * 16 + 16 ≤ qd.length * 16 := by omega
           refine regt 12 mixed kQ hF hS (sq rfl (q_fieldAddr ty54 rfl rfl (s' := 0) kQ) <|
             sq rfl (q_ld_blk1 ty48 2 rfl rfl rfl rfl) <|
             sq rfl (q_move rfl) <|
             sq rfl (q_move rfl) <|
             sq rfl (q_quoi' rfl rfl (by omega)) <|
             sq rfl (q_call fn17 rfl (fun w hS => arnd_ct _ _ (by omega) htd w ) (fun _ _ _ h => h)) <|
             sq rfl (q_idx_row ty48 ty29 0 rfl rfl rfl (by omega)) <|
             sq rfl (q_idx_rowE ty29 ty5 0 rfl rfl rfl (by omega) (by omega)) <|
             sq rfl (q_ld_row ty5 0 rfl rfl (flat_at hs16 hjl (by omega)) rfl) <|
             sq rfl (q_xorb (q := 1) rfl rfl) <|
             sq rfl (q_idx_row ty48 ty29 0 rfl rfl rfl (by omega)) <|
             sq rfl (q_idx_rowE ty29 ty5 0 rfl rfl rfl (by omega) (by omega)) <|
             sq_end) ?_
           clear hF hS; intro a w hF hS
           refine wpl_ef hF hS rfl (ef_st_cell ty5 0 rfl rfl rfl (by omega) rfl) ?_
           clear hF hS; rintro _ _ _ a w ⟨rfl, rfl, rfl⟩ hF hS
           replace hS : St _ [] [_, _, _, _, _] _ := hS
           refine wpList_nil ?_
           refine hK5 _ _ ?_
           clear hK5
           refine wp_seq_k ?_; intro K31 hK31
           refine regl ?_
           refine wpl_sq hF hS (sq rfl (q_ld_blkW ty54 2 rfl rfl bQ rfl) <|
             sq_end) ?_
           clear hF hS; intro a w hF hS
           refine wpl_ef hF hS rfl (ef_storeW ty54 3 rfl rfl rfl rfl bQ (oc_cons rfl (oc_cons rfl (oc_cons (row_one (hS.own _ (List.mem_of_getElem? (i := 1) rfl)).1) (oc_cons (row_one (hS.own _ (List.mem_of_getElem? (i := 0) rfl)).1) oc_nil)))) bQ) ?_
           clear hF hS; rintro _ _ _ a w ⟨rfl, rfl, rfl⟩ hF hS
           replace hS : St _ [] [_, _, _, _, _] _ := hS
           refine wpList_nil ?_
           refine hK31 _ _ ?_
           clear hK31
           refine wp_ret ?_
           have hnb := Mk.bent_sm hsm how b
           rw [show Mk.bent ⟨qf, qs, ql, qd⟩ how b = ⟨qf, qs, ql, (qd.set (Gu.arnd b (max (qd.length : Int) 1)).toNat ((qd.getD (Gu.arnd b (max (qd.length : Int) 1)).toNat []).set (Gu.arnd (b.tdiv 8) 16).toNat ((qd.getD (Gu.arnd b (max (qd.length : Int) 1)).toNat []).getD (Gu.arnd (b.tdiv 8) 16).toNat 0 ^^^ 1)))⟩ from by unfold Mk.bent; dsimp only; rw [if_neg hc1, if_neg hc2, if_neg hc3, if_neg hc4, if_neg hc5, if_neg hc7, if_neg hc9, if_neg hc11, if_pos hc12, if_pos (show 0 < qd.length by omega)]; rfl] at hnb
           obtain ⟨hn1, hn2, hn3, hn4⟩ := hnb
           dsimp only at hn1 hn2 hn3 hn4
           replace hS := hS.perm (.swap _ _ _)
           obtain ⟨zk, hzk, hS⟩ := St.freezeF (xs := ql) (hS.rowEq (m' := List.length (ql)) (cs' := List.flatMap kvC (ql)) (rfl) (rfl)) rfl (by omega) (fun x hx => by have := hn3 x hx; exact ⟨by omega, by omega⟩)
           replace hS : St _ [_] [_, _, _, _] _ := hS
           obtain ⟨zm, hzm, hS⟩ := St.freezeA (m := 16) (l := (qd.set (Gu.arnd b (max (qd.length : Int) 1)).toNat ((qd.getD (Gu.arnd b (max (qd.length : Int) 1)).toNat []).set (Gu.arnd (b.tdiv 8) 16).toNat ((qd.getD (Gu.arnd b (max (qd.length : Int) 1)).toNat []).getD (Gu.arnd (b.tdiv 8) 16).toNat 0 ^^^ 1)))) (hS.rowEq (m' := List.length ((qd.set (Gu.arnd b (max (qd.length : Int) 1)).toNat ((qd.getD (Gu.arnd b (max (qd.length : Int) 1)).toNat []).set (Gu.arnd (b.tdiv 8) 16).toNat ((qd.getD (Gu.arnd b (max (qd.length : Int) 1)).toNat []).getD (Gu.arnd (b.tdiv 8) 16).toNat 0 ^^^ 1))))) (cs' := List.map vb (List.flatten ((qd.set (Gu.arnd b (max (qd.length : Int) 1)).toNat ((qd.getD (Gu.arnd b (max (qd.length : Int) 1)).toNat []).set (Gu.arnd (b.tdiv 8) 16).toNat ((qd.getD (Gu.arnd b (max (qd.length : Int) 1)).toNat []).getD (Gu.arnd (b.tdiv 8) 16).toNat 0 ^^^ 1)))))) (by rw [List.length_set]) (flat_set1 hs16 hjl (by omega) _)) rfl (by omega) (hn4)
           replace hS : St _ [_, _] [_, _, _] _ := hS
           replace hS := hS.zone00
           replace hS : St _ [_, _, _] [_, _, _] _ := hS
           obtain ⟨zu, hzu, hS⟩ := hS.union
           exact fn_ret (rs := [.cell 6 54]) rfl hF hS (vs := [_]) ⟨⟨_, _, _, _, _, _, _, rfl, List.mem_of_getElem? (i := 1) rfl, ty54, .inl ⟨rfl, bQ, rfl⟩⟩, trivial⟩ (zs' := [zu]) (hs' := []) (List.singleton_sublist.2 (by simp)) zQ (pf_of (q := ⟨qf, qs, ql, (qd.set (Gu.arnd b (max (qd.length : Int) 1)).toNat ((qd.getD (Gu.arnd b (max (qd.length : Int) 1)).toNat []).set (Gu.arnd (b.tdiv 8) 16).toNat ((qd.getD (Gu.arnd b (max (qd.length : Int) 1)).toNat []).getD (Gu.arnd (b.tdiv 8) 16).toNat 0 ^^^ 1)))⟩) ⟨_, _, zu, rfl, Sl.mono (hzu _ (by simp)) hzk, Sl.mono (hzu _ (by simp)) hzm, rfl, rfl⟩ (by unfold Mk.bent; dsimp only; rw [if_neg hc1, if_neg hc2, if_neg hc3, if_neg hc4, if_neg hc5, if_neg hc7, if_neg hc9, if_neg hc11, if_pos hc12, if_pos (show 0 < qd.length by omega)]; rfl))
          ·refine wp_skip ?_
           refine hK5 _ _ ?_
           clear hK5
           refine wp_seq_k ?_; intro K32 hK32
           refine regl ?_
           refine wpl_sq hF hS (sq rfl (q_ld_blkW ty54 2 rfl rfl bQ rfl) <|
             sq_end) ?_
           clear hF hS; intro a w hF hS
           refine wpl_ef hF hS rfl (ef_storeW ty54 3 rfl rfl rfl rfl bQ (oc_cons rfl (oc_cons rfl (oc_cons (row_one (hS.own _ (List.mem_of_getElem? (i := 1) rfl)).1) (oc_cons (row_one (hS.own _ (List.mem_of_getElem? (i := 0) rfl)).1) oc_nil)))) bQ) ?_
           clear hF hS; rintro _ _ _ a w ⟨rfl, rfl, rfl⟩ hF hS
           replace hS : St _ [] [_, _, _, _, _] _ := hS
           refine wpList_nil ?_
           refine hK32 _ _ ?_
           clear hK32
           refine wp_ret ?_
           have hnb := Mk.bent_sm hsm how b
           rw [show Mk.bent ⟨qf, qs, ql, qd⟩ how b = ⟨qf, qs, ql, qd⟩ from by unfold Mk.bent; dsimp only; rw [if_neg hc1, if_neg hc2, if_neg hc3, if_neg hc4, if_neg hc5, if_neg hc7, if_neg hc9, if_neg hc11, if_pos hc12, if_neg (show ¬ 0 < qd.length by omega)]] at hnb
           obtain ⟨hn1, hn2, hn3, hn4⟩ := hnb
           dsimp only at hn1 hn2 hn3 hn4
           replace hS := hS.perm (.swap _ _ _)
           obtain ⟨zk, hzk, hS⟩ := St.freezeF (xs := ql) (hS.rowEq (m' := List.length (ql)) (cs' := List.flatMap kvC (ql)) (rfl) (rfl)) rfl (by omega) (fun x hx => by have := hn3 x hx; exact ⟨by omega, by omega⟩)
           replace hS : St _ [_] [_, _, _, _] _ := hS
           obtain ⟨zm, hzm, hS⟩ := St.freezeA (m := 16) (l := qd) (hS.rowEq (m' := List.length (qd)) (cs' := List.map vb (List.flatten (qd))) (rfl) (rfl)) rfl (by omega) (hn4)
           replace hS : St _ [_, _] [_, _, _] _ := hS
           replace hS := hS.zone00
           replace hS : St _ [_, _, _] [_, _, _] _ := hS
           obtain ⟨zu, hzu, hS⟩ := hS.union
           exact fn_ret (rs := [.cell 6 54]) rfl hF hS (vs := [_]) ⟨⟨_, _, _, _, _, _, _, rfl, List.mem_of_getElem? (i := 1) rfl, ty54, .inl ⟨rfl, bQ, rfl⟩⟩, trivial⟩ (zs' := [zu]) (hs' := []) (List.singleton_sublist.2 (by simp)) zQ (pf_of (q := ⟨qf, qs, ql, qd⟩) ⟨_, _, zu, rfl, Sl.mono (hzu _ (by simp)) hzk, Sl.mono (hzu _ (by simp)) hzm, rfl, rfl⟩ (by unfold Mk.bent; dsimp only; rw [if_neg hc1, if_neg hc2, if_neg hc3, if_neg hc4, if_neg hc5, if_neg hc7, if_neg hc9, if_neg hc11, if_pos hc12, if_neg (show ¬ 0 < qd.length by omega)]))
         ·refine wp_seq_k ?_; intro K33 hK33
          refine reg hF hS (sq rfl (q_eqi rfl rfl) <|
            sq rfl (q_assign rfl) <|
            sq_end) ?_
          clear hF hS; intro a w hF hS
          refine hK33 _ _ ?_
          clear hK33
          refine wp_ifd hF rfl (fun hc14 => ?_) (fun hc14 => ?_)
          ·refine wp_seq_k ?_; intro K34 hK34
           refine reg hF hS (sq rfl (q_fieldAddr ty54 rfl rfl (s' := 0) kQ) <|
             sq rfl (q_ld_blk1 ty48 2 rfl rfl rfl rfl) <|
             sq rfl (q_len_row ty48 0 rfl rfl) <|
             sq rfl (q_gti rfl rfl) <|
             sq_end) ?_
           clear hF hS; intro a w hF hS
           refine hK34 _ _ ?_
           clear hK34
           refine wp_ifd hF rfl (fun hc15 => ?_) (fun hc15 => ?_)
           ·have hjl : (Gu.arnd b (max (qd.length : Int) 1)).toNat < qd.length := by omega
            have hib := Gu.arnd_range (n := b.tdiv 8) (m := 16) (by omega)
            have hj16 : (Gu.arnd b (max (qd.length : Int) 1)).toNat * 16 + 16 ≤ qd.length * 16 := by omega
            refine regt 9 mixed kQ hF hS (sq rfl (q_fieldAddr ty54 rfl rfl (s' := 0) kQ) <|
              sq rfl (q_ld_blk1 ty48 2 rfl rfl rfl rfl) <|
              sq rfl (q_move rfl) <|
              sq rfl (q_slrowS_hi ty48 ty29 0 rfl rfl rfl (by omega)) <|
              sq rfl (q_fieldAddr ty54 rfl rfl (s' := 0) kQ) <|
              sq rfl (q_ld_blk1 ty48 2 rfl rfl rfl rfl) <|
              sq rfl (q_move rfl) <|
              sq rfl (q_addi rfl rfl (by omega)) <|
              sq rfl (q_slrowS_lo ty48 ty29 0 rfl rfl rfl (by omega)) <|
              sq_end) ?_
            clear hF hS; intro a w hF hS
            refine wpl_ef hF hS rfl (ef_append_cutS ty48 ty29 0 rfl rfl (by omega) rfl (by omega) (by omega) oQ rfl (by decide)) ?_
            clear hF hS; rintro v6 _ _ a w ⟨rfl, rfl⟩ hF hS
            replace hS : St _ [] [_, _, _, _, _] _ := hS
            refine wpl_sq hF hS (sq rfl (q_fieldAddr ty54 rfl rfl (s' := 0) kQ) <|
              sq_end) ?_
            clear hF hS; intro a w hF hS
            refine wpl_ef hF hS rfl (ef_store1 ty48 2 rfl rfl rfl (row_one (hS.own _ (List.mem_of_getElem? (i := 0) rfl)).1) (by simp)) ?_
            clear hF hS; rintro _ _ _ a w ⟨rfl, rfl, rfl⟩ hF hS
            replace hS : St _ [] [_, _, .blk _ _ ([_, _, _, _].set 3 _), _, _] _ := hS
            simp only [List.set_cons_zero, List.set_cons_succ] at hS
            replace hS : St _ [] [_, _, _, _, _] _ := hS
            refine wpList_nil ?_
            refine hK5 _ _ ?_
            clear hK5
            refine wp_seq_k ?_; intro K35 hK35
            refine regl ?_
            refine wpl_sq hF hS (sq rfl (q_ld_blkW ty54 2 rfl rfl bQ rfl) <|
              sq_end) ?_
            clear hF hS; intro a w hF hS
            refine wpl_ef hF hS rfl (ef_storeW ty54 3 rfl rfl rfl rfl bQ (oc_cons rfl (oc_cons rfl (oc_cons (row_one (hS.own _ (List.mem_of_getElem? (i := 1) rfl)).1) (oc_cons (row_one (hS.own _ (List.mem_of_getElem? (i := 0) rfl)).1) oc_nil)))) bQ) ?_
            clear hF hS; rintro _ _ _ a w ⟨rfl, rfl, rfl⟩ hF hS
            replace hS : St _ [] [_, _, _, _, _] _ := hS
            refine wpList_nil ?_
            refine hK35 _ _ ?_
            clear hK35
            refine wp_ret ?_
            have hnb := Mk.bent_sm hsm how b
            rw [show Mk.bent ⟨qf, qs, ql, qd⟩ how b = ⟨qf, qs, ql, (qd.take (Gu.arnd b (max (qd.length : Int) 1)).toNat ++ qd.drop ((Gu.arnd b (max (qd.length : Int) 1)).toNat + 1))⟩ from by unfold Mk.bent; dsimp only; rw [if_neg hc1, if_neg hc2, if_neg hc3, if_neg hc4, if_neg hc5, if_neg hc7, if_neg hc9, if_neg hc11, if_neg hc12, if_pos hc14, if_pos (show 0 < qd.length by omega)]; rfl] at hnb
            obtain ⟨hn1, hn2, hn3, hn4⟩ := hnb
            dsimp only at hn1 hn2 hn3 hn4
            replace hS := hS.perm (.swap _ _ _)
            obtain ⟨zk, hzk, hS⟩ := St.freezeF (xs := ql) (hS.rowEq (m' := List.length (ql)) (cs' := List.flatMap kvC (ql)) (rfl) (rfl)) rfl (by omega) (fun x hx => by have := hn3 x hx; exact ⟨by omega, by omega⟩)
            replace hS : St _ [_] [_, _, _, _] _ := hS
            obtain ⟨zm, hzm, hS⟩ := St.freezeA (m := 16) (l := (qd.take (Gu.arnd b (max (qd.length : Int) 1)).toNat ++ qd.drop ((Gu.arnd b (max (qd.length : Int) 1)).toNat + 1))) (hS.rowEq (m' := List.length ((qd.take (Gu.arnd b (max (qd.length : Int) 1)).toNat ++ qd.drop ((Gu.arnd b (max (qd.length : Int) 1)).toNat + 1)))) (cs' := List.map vb (List.flatten ((qd.take (Gu.arnd b (max (qd.length : Int) 1)).toNat ++ qd.drop ((Gu.arnd b (max (qd.length : Int) 1)).toNat + 1))))) (by rw [List.length_append, List.length_take, List.length_drop]; omega) (flat_cut hs16 _)) rfl (by omega) (hn4)
            replace hS : St _ [_, _] [_, _, _] _ := hS
            replace hS := hS.zone00
            replace hS : St _ [_, _, _] [_, _, _] _ := hS
            obtain ⟨zu, hzu, hS⟩ := hS.union
            exact fn_ret (rs := [.cell 6 54]) rfl hF hS (vs := [_]) ⟨⟨_, _, _, _, _, _, _, rfl, List.mem_of_getElem? (i := 1) rfl, ty54, .inl ⟨rfl, bQ, rfl⟩⟩, trivial⟩ (zs' := [zu]) (hs' := []) (List.singleton_sublist.2 (by simp)) zQ (pf_of (q := ⟨qf, qs, ql, (qd.take (Gu.arnd b (max (qd.length : Int) 1)).toNat ++ qd.drop ((Gu.arnd b (max (qd.length : Int) 1)).toNat + 1))⟩) ⟨_, _, zu, rfl, Sl.mono (hzu _ (by simp)) hzk, Sl.mono (hzu _ (by simp)) hzm, rfl, rfl⟩ (by unfold Mk.bent; dsimp only; rw [if_neg hc1, if_neg hc2, if_neg hc3, if_neg hc4, if_neg hc5, if_neg hc7, if_neg hc9, if_neg hc11, if_neg hc12, if_pos hc14, if_pos (show 0 < qd.length by omega)]; rfl))
           ·refine wp_skip ?_
            refine hK5 _ _ ?_
            clear hK5
            refine wp_seq_k ?_; intro K36 hK36
            refine regl ?_
            refine wpl_sq hF hS (sq rfl (q_ld_blkW ty54 2 rfl rfl bQ rfl) <|
              sq_end) ?_
            clear hF hS; intro a w hF hS
            refine wpl_ef hF hS rfl (ef_storeW ty54 3 rfl rfl rfl rfl bQ (oc_cons rfl (oc_cons rfl (oc_cons (row_one (hS.own _ (List.mem_of_getElem? (i := 1) rfl)).1) (oc_cons (row_one (hS.own _ (List.mem_of_getElem? (i := 0) rfl)).1) oc_nil)))) bQ) ?_
            clear hF hS; rintro _ _ _ a w ⟨rfl, rfl, rfl⟩ hF hS
            replace hS : St _ [] [_, _, _, _, _] _ := hS
            refine wpList_nil ?_
            refine hK36 _ _ ?_
            clear hK36
            refine wp_ret ?_
            have hnb := Mk.bent_sm hsm how b
            rw [show Mk.bent ⟨qf, qs, ql, qd⟩ how b = ⟨qf, qs, ql, qd⟩ from by unfold Mk.bent; dsimp only; rw [if_neg hc1, if_neg hc2, if_neg hc3, if_neg hc4, if_neg hc5, if_neg hc7, if_neg hc9, if_neg hc11, if_neg hc12, if_pos hc14, if_neg (show ¬ 0 < qd.length by omega)]] at hnb
            obtain ⟨hn1, hn2, hn3, hn4⟩ := hnb
            dsimp only at hn1 hn2 hn3 hn4
            replace hS := hS.perm (.swap _ _ _)
            obtain ⟨zk, hzk, hS⟩ := St.freezeF (xs := ql) (hS.rowEq (m' := List.length (ql)) (cs' := List.flatMap kvC (ql)) (rfl) (rfl)) rfl (by omega) (fun x hx => by have := hn3 x hx; exact ⟨by omega, by omega⟩)
            replace hS : St _ [_] [_, _, _, _] _ := hS
            obtain ⟨zm, hzm, hS⟩ := St.freezeA (m := 16) (l := qd) (hS.rowEq (m' := List.length (qd)) (cs' := List.map vb (List.flatten (qd))) (rfl) (rfl)) rfl (by omega) (hn4)
            replace hS : St _ [_, _] [_, _, _] _ := hS
            replace hS := hS.zone00
            replace hS : St _ [_, _, _] [_, _, _] _ := hS
            obtain ⟨zu, hzu, hS⟩ := hS.union
            exact fn_ret (rs := [.cell 6 54]) rfl hF hS (vs := [_]) ⟨⟨_, _, _, _, _, _, _, rfl, List.mem_of_getElem? (i := 1) rfl, ty54, .inl ⟨rfl, bQ, rfl⟩⟩, trivial⟩ (zs' := [zu]) (hs' := []) (List.singleton_sublist.2 (by simp)) zQ (pf_of (q := ⟨qf, qs, ql, qd⟩) ⟨_, _, zu, rfl, Sl.mono (hzu _ (by simp)) hzk, Sl.mono (hzu _ (by simp)) hzm, rfl, rfl⟩ (by unfold Mk.bent; dsimp only; rw [if_neg hc1, if_neg hc2, if_neg hc3, if_neg hc4, if_neg hc5, if_neg hc7, if_neg hc9, if_neg hc11, if_neg hc12, if_pos hc14, if_neg (show ¬ 0 < qd.length by omega)]))
          ·refine regl ?_
           refine wpl_sq hF hS (sq rfl (q_fieldAddr ty54 rfl rfl (s' := 0) kQ) <|
             sq rfl (q_ld_blk1 ty48 2 rfl rfl rfl rfl) <|
             sq rfl (q_build rfl (run_build_arr ty29 ty5 rfl)) <|
             sq_end) ?_
           clear hF hS; intro a w hF hS
           refine wpl_ef hF hS rfl (ef_bsliceW ty48 ty29 rfl bQ (by decide) oQ (by decide) (by decide)) ?_
           clear hF hS; rintro v7 _ _ a w ⟨rfl, rfl⟩ hF hS
           replace hS : St _ [] [_, _, _, _, _, _] _ := hS
           refine wpl_ef hF hS rfl (ef_append ty48 ty29 1 rfl rfl rfl (src_row ty48 (k := 0) rfl oQ) bQ rfl (by decide)) ?_
           clear hF hS; rintro v9 _ _ a w ⟨rfl, rfl⟩ hF hS
           replace hS : St _ [] [_, _, _, _, _, _] _ := hS
           refine wpl_sq hF hS (sq rfl (q_fieldAddr ty54 rfl rfl (s' := 0) kQ) <|
             sq_end) ?_
           clear hF hS; intro a w hF hS
           refine wpl_ef hF hS rfl (ef_store1 ty48 3 rfl rfl rfl (row_one (hS.own _ (List.mem_of_getElem? (i := 1) rfl)).1) (by simp)) ?_
           clear hF hS; rintro _ _ _ a w ⟨rfl, rfl, rfl⟩ hF hS
           replace hS : St _ [] [_, _, _, .blk _ _ ([_, _, _, _].set 3 _), _, _] _ := hS
           simp only [List.set_cons_zero, List.set_cons_succ] at hS
           replace hS : St _ [] [_, _, _, _, _, _] _ := hS
           refine wpList_nil ?_
           refine hK5 _ _ ?_
           clear hK5
           refine wp_seq_k ?_; intro K37 hK37
           refine regl ?_
           refine wpl_sq hF hS (sq rfl (q_ld_blkW ty54 3 rfl rfl bQ rfl) <|
             sq_end) ?_
           clear hF hS; intro a w hF hS
           refine wpl_ef hF hS rfl (ef_storeW ty54 4 rfl rfl rfl rfl bQ (oc_cons rfl (oc_cons rfl (oc_cons (row_one (hS.own _ (List.mem_of_getElem? (i := 2) rfl)).1) (oc_cons (row_one (hS.own _ (List.mem_of_getElem? (i := 1) rfl)).1) oc_nil)))) bQ) ?_
           clear hF hS; rintro _ _ _ a w ⟨rfl, rfl, rfl⟩ hF hS
           replace hS : St _ [] [_, _, _, _, _, _] _ := hS
           refine wpList_nil ?_
           refine hK37 _ _ ?_
           clear hK37
           refine wp_ret ?_
           have hnb := Mk.bent_sm hsm how b
           rw [show Mk.bent ⟨qf, qs, ql, qd⟩ how b = ⟨qf, qs, ql, (qd ++ [Mk.one1])⟩ from by unfold Mk.bent; dsimp only; rw [if_neg hc1, if_neg hc2, if_neg hc3, if_neg hc4, if_neg hc5, if_neg hc7, if_neg hc9, if_neg hc11, if_neg hc12, if_neg hc14]] at hnb
           obtain ⟨hn1, hn2, hn3, hn4⟩ := hnb
           dsimp only at hn1 hn2 hn3 hn4
           replace hS := hS.perm (.cons _ (.swap _ _ _))
           replace hS := hS.perm (.swap _ _ _)
           obtain ⟨zk, hzk, hS⟩ := St.freezeF (xs := ql) (hS.rowEq (m' := List.length (ql)) (cs' := List.flatMap kvC (ql)) (rfl) (rfl)) rfl (by omega) (fun x hx => by have := hn3 x hx; exact ⟨by omega, by omega⟩)
           replace hS : St _ [_] [_, _, _, _, _] _ := hS
           replace hS := hS.perm (.swap _ _ _)
           obtain ⟨zm, hzm, hS⟩ := St.freezeA (m := 16) (l := (qd ++ [Mk.one1])) (hS.rowEq (m' := List.length ((qd ++ [Mk.one1]))) (cs' := List.map vb (List.flatten ((qd ++ [Mk.one1])))) (by rw [List.length_append]; rfl) (by rw [List.flatten_append, List.map_append]; rfl)) rfl (by omega) (hn4)
           replace hS : St _ [_, _] [_, _, _, _] _ := hS
           replace hS := hS.zone00
           replace hS : St _ [_, _, _] [_, _, _, _] _ := hS
           obtain ⟨zu, hzu, hS⟩ := hS.union
           exact fn_ret (rs := [.cell 6 54]) rfl hF hS (vs := [_]) ⟨⟨_, _, _, _, _, _, _, rfl, List.mem_of_getElem? (i := 2) rfl, ty54, .inl ⟨rfl, bQ, rfl⟩⟩, trivial⟩ (zs' := [zu]) (hs' := []) (List.singleton_sublist.2 (by simp)) zQ (pf_of (q := ⟨qf, qs, ql, (qd ++ [Mk.one1])⟩) ⟨_, _, zu, rfl, Sl.mono (hzu _ (by simp)) hzk, Sl.mono (hzu _ (by simp)) hzm, rfl, rfl⟩ (by unfold Mk.bent; dsimp only; rw [if_neg hc1, if_neg hc2, if_neg hc3, if_neg hc4, if_neg hc5, if_neg hc7, if_neg hc9, if_neg hc11, if_neg hc12, if_neg hc14]))
end Go.Proofs.YtdojfnigffeblaaDoor
