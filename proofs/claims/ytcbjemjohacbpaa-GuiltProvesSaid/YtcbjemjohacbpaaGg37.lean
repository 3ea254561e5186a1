/- A text of a proof over this seat: walks over the program's functions and the plain laws that they need. -/
import Derived.Test.YtcbjemjohacbpaaGg36
import Derived.Test.YtcbjemjohacbpaaGuA
import Derived.Test.YtcbjemjohacbpaaFwC
import Derived.Test.YtcbjemjohacbpaaFwB
set_option linter.all false
namespace Go.Proofs.Ytcbjemjohacbpaa
open Go.Fw


/-- A proof of three lists. -/
def BentR (S F : List Int) (B : List Bool) (r : Value) (zs : List PH) (hs : List Res) : Prop :=
 ∃ (sv fv bv : Value) (z : PH), r = .agg [sv, fv, bv].toArray ∧ Sl encI z sv S ∧ Sl encI z fv F ∧ Sl encT z bv B ∧ zs = [z] ∧ hs = []
theorem bent_of {S F S' F' : List Int} {B B' : List Bool} {r : Value} {zs : List PH} {hs : List Res} (h : BentR S F B r zs hs) (e1 : S' = S) (e2 : F' = F) (e3 : B' = B) : BentR S' F' B' r zs hs := by subst e1; subst e2; subst e3; exact h

set_option maxRecDepth 4000 in
set_option maxHeartbeats 2000000 in
theorem bent_ct (x y z : Value) (S F : List Int) (B : List Bool) (h b : Int) (hS9 : S.length ≤ 1000 ∧ F.length ≤ 1000 ∧ B.length ≤ 1000) (hh9 : -9223372036854775808 ≤ h ∧ h ≤ 9223372036854775807) (hb9 : -9223372036854775808 ≤ b ∧ b ≤ 9223372036854775807) (w : World) (hx : Sl encI (ph w) x S) (hy : Sl encI (ph w) y F) (hz : Sl encT (ph w) z B) : Ct Try.prog 41 [.agg [x, y, z].toArray, vi h, vi b] w (BentR (Gu.bS S h b) (Gu.bF F B h b) (Gu.bB B h b)) := by
 refine fn_enter Try.func41 rfl Try.ntmps41 (Nat.le_of_ble_eq_true rfl) fun a hF hS => ?_
 have hsr := sl_rng hx
 have hfr := sl_rng hy
 have hh6 := Gu.arnd_range (n := h) (m := 6) (by decide)
 have hkr := Gu.arnd_range (n := b) (m := max (B.length : Int) 1) (by omega)
 have hbk : Gu.bK B b = Gu.arnd b (max (B.length : Int) 1) := rfl
 have hb32 := Gu.arnd_range (n := b) (m := 32) (by decide)
 have hbf := Gu.arnd_range (n := b) (m := (F.length : Int) + 2) (by omega)
 refine wp_seq_k ?_; intro K1 hK1
 refine regl ?_
 refine wpl_ef hF hS rfl (ef_boxA rfl) ?_
 clear hF hS; rintro _ _ _ a w ⟨b1, rfl, rfl, rfl⟩ hF hS
 refine wpl_ef hF hS rfl (ef_allocA ty67) ?_
 clear hF hS; rintro _ _ _ a w ⟨b2, rfl, rfl, rfl⟩ hF hS
 refine wpList_nil ?_
 refine hK1 _ _ ?_
 clear hK1
 refine wp_seq_k ?_; intro K2 hK2
 revert hF hS; apply regJ (J := J7 (α0 := Value) (α1 := Value) (α2 := Value) (α3 := Value) (α4 := Value) (α5 := Value) (α6 := Nat) 101 _ _ _ _ _) #[false, false, false, false, false, false, false, false, false, false, false, false, false, false, false] 15 mixed rfl rfl
 ·intro w hF hS
  refine goW_take 1 _ rfl kQ rfl hF (hS.keep sQ zQ) (q_fieldAddr ty67 rfl rfl (s' := 0) kQ) ?_
  clear hF; intro a hF
  refine goW_take 2 _ rfl kQ rfl hF (hS.keep sQ (sQ.n)) (q_ld_blk1 ty22 0 rfl rfl rfl rfl) ?_
  clear hF; intro a hF
  refine goW_take 5 _ rfl kQ rfl hF (hS.keep sQ zQ) (q_fieldAddr ty67 rfl rfl (s' := 0) kQ) ?_
  clear hF; intro a hF
  refine goW_take 6 _ rfl kQ rfl hF (hS.keep sQ (sQ.n)) (q_ld_blk1 ty22 0 rfl rfl rfl rfl) ?_
  clear hF; intro a hF
  refine goW_take 9 _ rfl kQ rfl hF (hS.keep sQ zQ) (q_fieldAddr ty67 rfl rfl (s' := 0) kQ) ?_
  clear hF; intro a hF
  refine goW_take 10 _ rfl kQ rfl hF (hS.keep sQ (sQ.n)) (q_ld_blk1 ty23 0 rfl rfl rfl rfl) ?_
  clear hF; intro a hF
  refine goW_fork [0, 4, 8, 13] kQ rfl ⟨?_, ?_, ?_, ?_, trivial⟩
  ·refine stepW_ef _ rfl rfl hF hS rfl (ef_bslice0 ty22 ty3) ?_
   clear hF hS; rintro v_1_0 _ _ a w ⟨rfl, rfl⟩ hF hS
   refine ⟨⟨.inr (hS.k1 (sQ.n.n)), .inr hS.k0, .inr (hS.k1 (sQ.n.n)), .inr hS.k0, .inr (hS.k1 (sQ.n.n)), .inr hS.k0, trivial⟩, ?_⟩
   refine goW_fork [3, 4, 8, 13] kQ rfl ⟨?_, ?_, ?_, ?_, trivial⟩
   ·refine stepW_ef _ rfl rfl hF hS rfl (ef_append ty22 ty3 0 rfl rfl rfl (src_slV ty22 hx zin0) bQ rfl (by decide)) ?_
    clear hF hS; rintro v_1_3 _ _ a w ⟨rfl, rfl⟩ hF hS
    refine ⟨⟨.inr (hS.k1 (sQ.n.n)), .inr hS.k0, .inr (hS.k1 (sQ.n.n)), .inr hS.k0, iQ, iQ, trivial⟩, ?_⟩
    refine goW_fork [4, 8, 13] kQ rfl ⟨?_, ?_, ?_, trivial⟩
    ·refine stepW_ef _ rfl rfl hF hS rfl (ef_bslice0 ty22 ty3) ?_
     clear hF hS; rintro v_1_4 _ _ a w ⟨rfl, rfl⟩ hF hS
     refine ⟨⟨.inr (hS.k1 (sQ.n.n.n)), .inr hS.k0, .inr (hS.k1 (sQ.n.n.n)), .inr hS.k0, iQ, iQ, trivial⟩, ?_⟩
     refine goW_fork [7, 8, 13] kQ rfl ⟨?_, ?_, ?_, trivial⟩
     ·refine stepW_ef _ rfl rfl hF hS rfl (ef_append ty22 ty3 0 rfl rfl rfl (src_slV ty22 hy zin0) bQ rfl (by decide)) ?_
      clear hF hS; rintro v_1_7 _ _ a w ⟨rfl, rfl⟩ hF hS
      refine ⟨⟨.inr (hS.k1 (sQ.n.n.n)), .inr hS.k0, iQ, iQ, iQ, iQ, trivial⟩, ?_⟩
      refine goW_fork [8, 13] kQ rfl ⟨?_, ?_, trivial⟩
      ·refine stepW_ef _ rfl rfl hF hS rfl (ef_bslice0 ty23 ty4) ?_
       clear hF hS; rintro v_1_8 _ _ a w ⟨rfl, rfl⟩ hF hS
       refine ⟨⟨.inr (hS.k1 (sQ.n.n.n.n)), .inr hS.k0, iQ, iQ, iQ, iQ, trivial⟩, ?_⟩
       refine goW_fork [11, 13] kQ rfl ⟨?_, ?_, trivial⟩
       ·refine stepW_ef _ rfl rfl hF hS rfl (ef_append ty23 ty4 0 rfl rfl rfl (src_slV ty23 hz zin0) bQ rfl (by decide)) ?_
        clear hF hS; rintro v_1_11 _ _ a w ⟨rfl, rfl⟩ hF hS
        refine ⟨⟨iQ, iQ, iQ, iQ, iQ, iQ, trivial⟩, ?_⟩
        refine goW_take 12 _ rfl kQ rfl hF (hS.keep sQ (zQ.k.k.k)) (q_buildS1 ty67 3 kQ rfl rfl (oc_cons (row_one (hS.own _ (List.mem_of_getElem? (i := 2) rfl)).1) (oc_cons (row_one (hS.own _ (List.mem_of_getElem? (i := 1) rfl)).1) (oc_cons (row_one (hS.own _ (List.mem_of_getElem? (i := 0) rfl)).1) oc_nil))) rfl rfl) ?_
        clear hF; intro a hF
        refine gQ 13 rfl rfl hF hS rfl (ef_allocA ty67) ?_
        clear hF hS; rintro _ _ _ a w ⟨b_1_13, rfl, rfl, rfl⟩ hF hS
        refine ⟨⟨.inr (hS.k1 (zQ.k.k.k.n)), iQ, iQ, iQ, iQ, iQ, iQ, trivial⟩, ?_⟩
        refine gQ 14 rfl rfl hF hS rfl (ef_storeW ty67 0 rfl rfl rfl rfl bQ (oc_cons (row_one (hS.own _ (List.mem_of_getElem? (i := 3) rfl)).1) (oc_cons (row_one (hS.own _ (List.mem_of_getElem? (i := 2) rfl)).1) (oc_cons (row_one (hS.own _ (List.mem_of_getElem? (i := 1) rfl)).1) oc_nil))) bQ) ?_
        clear hF hS; rintro _ _ _ a w ⟨rfl, rfl, rfl⟩ hF hS
        refine ⟨⟨iQ, iQ, iQ, iQ, iQ, iQ, iQ, trivial⟩, ?_⟩
        exact goW_done kQ (j7_mk v_1_0 v_1_3 v_1_4 v_1_7 v_1_8 v_1_11 b_1_13 (trivial) (hF.sub (L' := [(1, _), (2, _), (6, _), (7, _)]) ⟨rfl, rfl, rfl, rfl, trivial⟩) hS)
       ·refine stepW_ef _ rfl rfl hF hS rfl (ef_allocA ty67) ?_
        clear hF hS; rintro _ _ _ a w ⟨b_1_13, rfl, rfl, rfl⟩ hF hS
        refine ⟨⟨.inr (hS.k1 (sQ.n.n.n.n.n)), .inr hS.k0, iQ, iQ, iQ, iQ, trivial⟩, ?_⟩
        refine gQ 11 rfl rfl hF hS rfl (ef_append ty23 ty4 1 rfl rfl rfl (src_slV ty23 hz zin0) bQ rfl (by decide)) ?_
        clear hF hS; rintro v_1_11 _ _ a w ⟨rfl, rfl⟩ hF hS
        refine ⟨⟨iQ, iQ, iQ, iQ, iQ, iQ, trivial⟩, ?_⟩
        refine goW_take 12 _ rfl kQ rfl hF (hS.keep sQ (zQ.k.k.k.n)) (q_buildS1 ty67 3 kQ rfl rfl (oc_cons (row_one (hS.own _ (List.mem_of_getElem? (i := 3) rfl)).1) (oc_cons (row_one (hS.own _ (List.mem_of_getElem? (i := 2) rfl)).1) (oc_cons (row_one (hS.own _ (List.mem_of_getElem? (i := 1) rfl)).1) oc_nil))) rfl rfl) ?_
        clear hF; intro a hF
        refine gQ 14 rfl rfl hF hS rfl (ef_storeW ty67 0 rfl rfl rfl rfl bQ (oc_cons (row_one (hS.own _ (List.mem_of_getElem? (i := 3) rfl)).1) (oc_cons (row_one (hS.own _ (List.mem_of_getElem? (i := 2) rfl)).1) (oc_cons (row_one (hS.own _ (List.mem_of_getElem? (i := 1) rfl)).1) oc_nil))) bQ) ?_
        clear hF hS; rintro _ _ _ a w ⟨rfl, rfl, rfl⟩ hF hS
        refine ⟨⟨iQ, iQ, iQ, iQ, iQ, iQ, iQ, trivial⟩, ?_⟩
        exact goW_done kQ (j7_mk v_1_0 v_1_3 v_1_4 v_1_7 v_1_8 v_1_11 b_1_13 (trivial) (hF.sub (L' := [(1, _), (2, _), (6, _), (7, _)]) ⟨rfl, rfl, rfl, rfl, trivial⟩) hS)
      ·refine stepW_ef _ rfl rfl hF hS rfl (ef_allocA ty67) ?_
       clear hF hS; rintro _ _ _ a w ⟨b_1_13, rfl, rfl, rfl⟩ hF hS
       refine ⟨⟨.inr (hS.k1 (sQ.n.n.n.n)), .inr hS.k0, iQ, iQ, iQ, iQ, trivial⟩, ?_⟩
       refine gQ 8 rfl rfl hF hS rfl (ef_bslice0 ty23 ty4) ?_
       clear hF hS; rintro v_1_8 _ _ a w ⟨rfl, rfl⟩ hF hS
       refine ⟨⟨.inr (hS.k1 (sQ.n.n.n.n.n)), .inr hS.k0, iQ, iQ, iQ, iQ, trivial⟩, ?_⟩
       refine gQ 11 rfl rfl hF hS rfl (ef_append ty23 ty4 0 rfl rfl rfl (src_slV ty23 hz zin0) bQ rfl (by decide)) ?_
       clear hF hS; rintro v_1_11 _ _ a w ⟨rfl, rfl⟩ hF hS
       refine ⟨⟨iQ, iQ, iQ, iQ, iQ, iQ, trivial⟩, ?_⟩
       refine goW_take 12 _ rfl kQ rfl hF (hS.keep sQ (zQ.k.k.n.k)) (q_buildS1 ty67 3 kQ rfl rfl (oc_cons (row_one (hS.own _ (List.mem_of_getElem? (i := 3) rfl)).1) (oc_cons (row_one (hS.own _ (List.mem_of_getElem? (i := 2) rfl)).1) (oc_cons (row_one (hS.own _ (List.mem_of_getElem? (i := 0) rfl)).1) oc_nil))) rfl rfl) ?_
       clear hF; intro a hF
       refine gQ 14 rfl rfl hF hS rfl (ef_storeW ty67 1 rfl rfl rfl rfl bQ (oc_cons (row_one (hS.own _ (List.mem_of_getElem? (i := 3) rfl)).1) (oc_cons (row_one (hS.own _ (List.mem_of_getElem? (i := 2) rfl)).1) (oc_cons (row_one (hS.own _ (List.mem_of_getElem? (i := 0) rfl)).1) oc_nil))) bQ) ?_
       clear hF hS; rintro _ _ _ a w ⟨rfl, rfl, rfl⟩ hF hS
       refine ⟨⟨iQ, iQ, iQ, iQ, iQ, iQ, iQ, trivial⟩, ?_⟩
       exact goW_done kQ (j7_mk v_1_0 v_1_3 v_1_4 v_1_7 v_1_8 v_1_11 b_1_13 (trivial) (hF.sub (L' := [(1, _), (2, _), (6, _), (7, _)]) ⟨rfl, rfl, rfl, rfl, trivial⟩) (hS.perm (.swap _ _ _)))
     ·refine stepW_ef _ rfl rfl hF hS rfl (ef_bslice0 ty23 ty4) ?_
      clear hF hS; rintro v_1_8 _ _ a w ⟨rfl, rfl⟩ hF hS
      refine ⟨⟨.inr (hS.k1 (sQ.n.n.n.n)), .inr hS.k0, .inr (hS.k1 (sQ.n.n.n.n)), .inr hS.k0, iQ, iQ, trivial⟩, ?_⟩
      refine goW_fork [7, 13] kQ rfl ⟨?_, ?_, trivial⟩
      ·refine stepW_ef _ rfl rfl hF hS rfl (ef_append ty22 ty3 1 rfl rfl rfl (src_slV ty22 hy zin0) bQ rfl (by decide)) ?_
       clear hF hS; rintro v_1_7 _ _ a w ⟨rfl, rfl⟩ hF hS
       refine ⟨⟨.inr (hS.k1 (sQ.n.n.n.n)), .inr hS.k0, iQ, iQ, iQ, iQ, trivial⟩, ?_⟩
       refine goW_fork [11, 13] kQ rfl ⟨?_, ?_, trivial⟩
       ·refine stepW_ef _ rfl rfl hF hS rfl (ef_append ty23 ty4 0 rfl rfl rfl (src_slV ty23 hz zin0) bQ rfl (by decide)) ?_
        clear hF hS; rintro v_1_11 _ _ a w ⟨rfl, rfl⟩ hF hS
        refine ⟨⟨iQ, iQ, iQ, iQ, iQ, iQ, trivial⟩, ?_⟩
        refine goW_take 12 _ rfl kQ rfl hF (hS.keep sQ (zQ.k.k.k)) (q_buildS1 ty67 3 kQ rfl rfl (oc_cons (row_one (hS.own _ (List.mem_of_getElem? (i := 2) rfl)).1) (oc_cons (row_one (hS.own _ (List.mem_of_getElem? (i := 1) rfl)).1) (oc_cons (row_one (hS.own _ (List.mem_of_getElem? (i := 0) rfl)).1) oc_nil))) rfl rfl) ?_
        clear hF; intro a hF
        refine gQ 13 rfl rfl hF hS rfl (ef_allocA ty67) ?_
        clear hF hS; rintro _ _ _ a w ⟨b_1_13, rfl, rfl, rfl⟩ hF hS
        refine ⟨⟨.inr (hS.k1 (zQ.k.k.k.n)), iQ, iQ, iQ, iQ, iQ, iQ, trivial⟩, ?_⟩
        refine gQ 14 rfl rfl hF hS rfl (ef_storeW ty67 0 rfl rfl rfl rfl bQ (oc_cons (row_one (hS.own _ (List.mem_of_getElem? (i := 3) rfl)).1) (oc_cons (row_one (hS.own _ (List.mem_of_getElem? (i := 2) rfl)).1) (oc_cons (row_one (hS.own _ (List.mem_of_getElem? (i := 1) rfl)).1) oc_nil))) bQ) ?_
        clear hF hS; rintro _ _ _ a w ⟨rfl, rfl, rfl⟩ hF hS
        refine ⟨⟨iQ, iQ, iQ, iQ, iQ, iQ, iQ, trivial⟩, ?_⟩
        exact goW_done kQ (j7_mk v_1_0 v_1_3 v_1_4 v_1_7 v_1_8 v_1_11 b_1_13 (trivial) (hF.sub (L' := [(1, _), (2, _), (6, _), (7, _)]) ⟨rfl, rfl, rfl, rfl, trivial⟩) hS)
       ·refine stepW_ef _ rfl rfl hF hS rfl (ef_allocA ty67) ?_
        clear hF hS; rintro _ _ _ a w ⟨b_1_13, rfl, rfl, rfl⟩ hF hS
        refine ⟨⟨.inr (hS.k1 (sQ.n.n.n.n.n)), .inr hS.k0, iQ, iQ, iQ, iQ, trivial⟩, ?_⟩
        refine gQ 11 rfl rfl hF hS rfl (ef_append ty23 ty4 1 rfl rfl rfl (src_slV ty23 hz zin0) bQ rfl (by decide)) ?_
        clear hF hS; rintro v_1_11 _ _ a w ⟨rfl, rfl⟩ hF hS
        refine ⟨⟨iQ, iQ, iQ, iQ, iQ, iQ, trivial⟩, ?_⟩
        refine goW_take 12 _ rfl kQ rfl hF (hS.keep sQ (zQ.k.k.k.n)) (q_buildS1 ty67 3 kQ rfl rfl (oc_cons (row_one (hS.own _ (List.mem_of_getElem? (i := 3) rfl)).1) (oc_cons (row_one (hS.own _ (List.mem_of_getElem? (i := 2) rfl)).1) (oc_cons (row_one (hS.own _ (List.mem_of_getElem? (i := 1) rfl)).1) oc_nil))) rfl rfl) ?_
        clear hF; intro a hF
        refine gQ 14 rfl rfl hF hS rfl (ef_storeW ty67 0 rfl rfl rfl rfl bQ (oc_cons (row_one (hS.own _ (List.mem_of_getElem? (i := 3) rfl)).1) (oc_cons (row_one (hS.own _ (List.mem_of_getElem? (i := 2) rfl)).1) (oc_cons (row_one (hS.own _ (List.mem_of_getElem? (i := 1) rfl)).1) oc_nil))) bQ) ?_
        clear hF hS; rintro _ _ _ a w ⟨rfl, rfl, rfl⟩ hF hS
        refine ⟨⟨iQ, iQ, iQ, iQ, iQ, iQ, iQ, trivial⟩, ?_⟩
        exact goW_done kQ (j7_mk v_1_0 v_1_3 v_1_4 v_1_7 v_1_8 v_1_11 b_1_13 (trivial) (hF.sub (L' := [(1, _), (2, _), (6, _), (7, _)]) ⟨rfl, rfl, rfl, rfl, trivial⟩) hS)
      ·refine stepW_ef _ rfl rfl hF hS rfl (ef_allocA ty67) ?_
       clear hF hS; rintro _ _ _ a w ⟨b_1_13, rfl, rfl, rfl⟩ hF hS
       refine ⟨⟨.inr (hS.k1 (sQ.n.n.n.n.n)), .inr hS.k0, .inr (hS.k1 (sQ.n.n.n.n.n)), .inr hS.k0, iQ, iQ, trivial⟩, ?_⟩
       refine gQ 7 rfl rfl hF hS rfl (ef_append ty22 ty3 2 rfl rfl rfl (src_slV ty22 hy zin0) bQ rfl (by decide)) ?_
       clear hF hS; rintro v_1_7 _ _ a w ⟨rfl, rfl⟩ hF hS
       refine ⟨⟨.inr (hS.k1 (sQ.n.n.n.n.n)), .inr hS.k0, iQ, iQ, iQ, iQ, trivial⟩, ?_⟩
       refine gQ 11 rfl rfl hF hS rfl (ef_append ty23 ty4 1 rfl rfl rfl (src_slV ty23 hz zin0) bQ rfl (by decide)) ?_
       clear hF hS; rintro v_1_11 _ _ a w ⟨rfl, rfl⟩ hF hS
       refine ⟨⟨iQ, iQ, iQ, iQ, iQ, iQ, trivial⟩, ?_⟩
       refine goW_take 12 _ rfl kQ rfl hF (hS.keep sQ (zQ.k.k.k.n)) (q_buildS1 ty67 3 kQ rfl rfl (oc_cons (row_one (hS.own _ (List.mem_of_getElem? (i := 3) rfl)).1) (oc_cons (row_one (hS.own _ (List.mem_of_getElem? (i := 2) rfl)).1) (oc_cons (row_one (hS.own _ (List.mem_of_getElem? (i := 1) rfl)).1) oc_nil))) rfl rfl) ?_
       clear hF; intro a hF
       refine gQ 14 rfl rfl hF hS rfl (ef_storeW ty67 0 rfl rfl rfl rfl bQ (oc_cons (row_one (hS.own _ (List.mem_of_getElem? (i := 3) rfl)).1) (oc_cons (row_one (hS.own _ (List.mem_of_getElem? (i := 2) rfl)).1) (oc_cons (row_one (hS.own _ (List.mem_of_getElem? (i := 1) rfl)).1) oc_nil))) bQ) ?_
       clear hF hS; rintro _ _ _ a w ⟨rfl, rfl, rfl⟩ hF hS
       refine ⟨⟨iQ, iQ, iQ, iQ, iQ, iQ, iQ, trivial⟩, ?_⟩
       exact goW_done kQ (j7_mk v_1_0 v_1_3 v_1_4 v_1_7 v_1_8 v_1_11 b_1_13 (trivial) (hF.sub (L' := [(1, _), (2, _), (6, _), (7, _)]) ⟨rfl, rfl, rfl, rfl, trivial⟩) hS)
     ·refine stepW_ef _ rfl rfl hF hS rfl (ef_allocA ty67) ?_
      clear hF hS; rintro _ _ _ a w ⟨b_1_13, rfl, rfl, rfl⟩ hF hS
      refine ⟨⟨.inr (hS.k1 (sQ.n.n.n.n)), .inr hS.k0, .inr (hS.k1 (sQ.n.n.n.n)), .inr hS.k0, iQ, iQ, trivial⟩, ?_⟩
      refine goW_fork [7, 8] kQ rfl ⟨?_, ?_, trivial⟩
      ·refine stepW_ef _ rfl rfl hF hS rfl (ef_append ty22 ty3 1 rfl rfl rfl (src_slV ty22 hy zin0) bQ rfl (by decide)) ?_
       clear hF hS; rintro v_1_7 _ _ a w ⟨rfl, rfl⟩ hF hS
       refine ⟨⟨.inr (hS.k1 (sQ.n.n.n.n)), .inr hS.k0, iQ, iQ, iQ, iQ, trivial⟩, ?_⟩
       refine gQ 8 rfl rfl hF hS rfl (ef_bslice0 ty23 ty4) ?_
       clear hF hS; rintro v_1_8 _ _ a w ⟨rfl, rfl⟩ hF hS
       refine ⟨⟨.inr (hS.k1 (sQ.n.n.n.n.n)), .inr hS.k0, iQ, iQ, iQ, iQ, trivial⟩, ?_⟩
       refine gQ 11 rfl rfl hF hS rfl (ef_append ty23 ty4 0 rfl rfl rfl (src_slV ty23 hz zin0) bQ rfl (by decide)) ?_
       clear hF hS; rintro v_1_11 _ _ a w ⟨rfl, rfl⟩ hF hS
       refine ⟨⟨iQ, iQ, iQ, iQ, iQ, iQ, trivial⟩, ?_⟩
       refine goW_take 12 _ rfl kQ rfl hF (hS.keep sQ (zQ.k.k.n.k)) (q_buildS1 ty67 3 kQ rfl rfl (oc_cons (row_one (hS.own _ (List.mem_of_getElem? (i := 3) rfl)).1) (oc_cons (row_one (hS.own _ (List.mem_of_getElem? (i := 2) rfl)).1) (oc_cons (row_one (hS.own _ (List.mem_of_getElem? (i := 0) rfl)).1) oc_nil))) rfl rfl) ?_
       clear hF; intro a hF
       refine gQ 14 rfl rfl hF hS rfl (ef_storeW ty67 1 rfl rfl rfl rfl bQ (oc_cons (row_one (hS.own _ (List.mem_of_getElem? (i := 3) rfl)).1) (oc_cons (row_one (hS.own _ (List.mem_of_getElem? (i := 2) rfl)).1) (oc_cons (row_one (hS.own _ (List.mem_of_getElem? (i := 0) rfl)).1) oc_nil))) bQ) ?_
       clear hF hS; rintro _ _ _ a w ⟨rfl, rfl, rfl⟩ hF hS
       refine ⟨⟨iQ, iQ, iQ, iQ, iQ, iQ, iQ, trivial⟩, ?_⟩
       exact goW_done kQ (j7_mk v_1_0 v_1_3 v_1_4 v_1_7 v_1_8 v_1_11 b_1_13 (trivial) (hF.sub (L' := [(1, _), (2, _), (6, _), (7, _)]) ⟨rfl, rfl, rfl, rfl, trivial⟩) (hS.perm (.swap _ _ _)))
      ·refine stepW_ef _ rfl rfl hF hS rfl (ef_bslice0 ty23 ty4) ?_
       clear hF hS; rintro v_1_8 _ _ a w ⟨rfl, rfl⟩ hF hS
       refine ⟨⟨.inr (hS.k1 (sQ.n.n.n.n.n)), .inr hS.k0, .inr (hS.k1 (sQ.n.n.n.n.n)), .inr hS.k0, iQ, iQ, trivial⟩, ?_⟩
       refine gQ 7 rfl rfl hF hS rfl (ef_append ty22 ty3 2 rfl rfl rfl (src_slV ty22 hy zin0) bQ rfl (by decide)) ?_
       clear hF hS; rintro v_1_7 _ _ a w ⟨rfl, rfl⟩ hF hS
       refine ⟨⟨.inr (hS.k1 (sQ.n.n.n.n.n)), .inr hS.k0, iQ, iQ, iQ, iQ, trivial⟩, ?_⟩
       refine gQ 11 rfl rfl hF hS rfl (ef_append ty23 ty4 0 rfl rfl rfl (src_slV ty23 hz zin0) bQ rfl (by decide)) ?_
       clear hF hS; rintro v_1_11 _ _ a w ⟨rfl, rfl⟩ hF hS
       refine ⟨⟨iQ, iQ, iQ, iQ, iQ, iQ, trivial⟩, ?_⟩
       refine goW_take 12 _ rfl kQ rfl hF (hS.keep sQ (zQ.k.k.n.k)) (q_buildS1 ty67 3 kQ rfl rfl (oc_cons (row_one (hS.own _ (List.mem_of_getElem? (i := 3) rfl)).1) (oc_cons (row_one (hS.own _ (List.mem_of_getElem? (i := 2) rfl)).1) (oc_cons (row_one (hS.own _ (List.mem_of_getElem? (i := 0) rfl)).1) oc_nil))) rfl rfl) ?_
       clear hF; intro a hF
       refine gQ 14 rfl rfl hF hS rfl (ef_storeW ty67 1 rfl rfl rfl rfl bQ (oc_cons (row_one (hS.own _ (List.mem_of_getElem? (i := 3) rfl)).1) (oc_cons (row_one (hS.own _ (List.mem_of_getElem? (i := 2) rfl)).1) (oc_cons (row_one (hS.own _ (List.mem_of_getElem? (i := 0) rfl)).1) oc_nil))) bQ) ?_
       clear hF hS; rintro _ _ _ a w ⟨rfl, rfl, rfl⟩ hF hS
       refine ⟨⟨iQ, iQ, iQ, iQ, iQ, iQ, iQ, trivial⟩, ?_⟩
       exact goW_done kQ (j7_mk v_1_0 v_1_3 v_1_4 v_1_7 v_1_8 v_1_11 b_1_13 (trivial) (hF.sub (L' := [(1, _), (2, _), (6, _), (7, _)]) ⟨rfl, rfl, rfl, rfl, trivial⟩) (hS.perm (.swap _ _ _)))
    ·refine stepW_ef _ rfl rfl hF hS rfl (ef_bslice0 ty23 ty4) ?_
     clear hF hS; rintro v_1_8 _ _ a w ⟨rfl, rfl⟩ hF hS
     refine ⟨⟨.inr (hS.k1 (sQ.n.n.n)), .inr hS.k0, .inr (hS.k1 (sQ.n.n.n)), .inr hS.k0, iQ, iQ, trivial⟩, ?_⟩
     refine goW_fork [4, 13] kQ rfl ⟨?_, ?_, trivial⟩
     ·refine stepW_ef _ rfl rfl hF hS rfl (ef_bslice0 ty22 ty3) ?_
      clear hF hS; rintro v_1_4 _ _ a w ⟨rfl, rfl⟩ hF hS
      refine ⟨⟨.inr (hS.k1 (sQ.n.n.n.n)), .inr hS.k0, .inr (hS.k1 (sQ.n.n.n.n)), .inr hS.k0, iQ, iQ, trivial⟩, ?_⟩
      refine goW_fork [7, 13] kQ rfl ⟨?_, ?_, trivial⟩
      ·refine stepW_ef _ rfl rfl hF hS rfl (ef_append ty22 ty3 0 rfl rfl rfl (src_slV ty22 hy zin0) bQ rfl (by decide)) ?_
       clear hF hS; rintro v_1_7 _ _ a w ⟨rfl, rfl⟩ hF hS
       refine ⟨⟨.inr (hS.k1 (sQ.n.n.n.n)), .inr hS.k0, iQ, iQ, iQ, iQ, trivial⟩, ?_⟩
       refine goW_fork [11, 13] kQ rfl ⟨?_, ?_, trivial⟩
       ·refine stepW_ef _ rfl rfl hF hS rfl (ef_append ty23 ty4 1 rfl rfl rfl (src_slV ty23 hz zin0) bQ rfl (by decide)) ?_
        clear hF hS; rintro v_1_11 _ _ a w ⟨rfl, rfl⟩ hF hS
        refine ⟨⟨iQ, iQ, iQ, iQ, iQ, iQ, trivial⟩, ?_⟩
        refine goW_take 12 _ rfl kQ rfl hF (hS.keep sQ (zQ.k.k.k)) (q_buildS1 ty67 3 kQ rfl rfl (oc_cons (row_one (hS.own _ (List.mem_of_getElem? (i := 2) rfl)).1) (oc_cons (row_one (hS.own _ (List.mem_of_getElem? (i := 0) rfl)).1) (oc_cons (row_one (hS.own _ (List.mem_of_getElem? (i := 1) rfl)).1) oc_nil))) rfl rfl) ?_
        clear hF; intro a hF
        refine gQ 13 rfl rfl hF hS rfl (ef_allocA ty67) ?_
        clear hF hS; rintro _ _ _ a w ⟨b_1_13, rfl, rfl, rfl⟩ hF hS
        refine ⟨⟨.inr (hS.k1 (zQ.k.k.k.n)), iQ, iQ, iQ, iQ, iQ, iQ, trivial⟩, ?_⟩
        refine gQ 14 rfl rfl hF hS rfl (ef_storeW ty67 0 rfl rfl rfl rfl bQ (oc_cons (row_one (hS.own _ (List.mem_of_getElem? (i := 3) rfl)).1) (oc_cons (row_one (hS.own _ (List.mem_of_getElem? (i := 1) rfl)).1) (oc_cons (row_one (hS.own _ (List.mem_of_getElem? (i := 2) rfl)).1) oc_nil))) bQ) ?_
        clear hF hS; rintro _ _ _ a w ⟨rfl, rfl, rfl⟩ hF hS
        refine ⟨⟨iQ, iQ, iQ, iQ, iQ, iQ, iQ, trivial⟩, ?_⟩
        exact goW_done kQ (j7_mk v_1_0 v_1_3 v_1_4 v_1_7 v_1_8 v_1_11 b_1_13 (trivial) (hF.sub (L' := [(1, _), (2, _), (6, _), (7, _)]) ⟨rfl, rfl, rfl, rfl, trivial⟩) (hS.perm (.cons _ (.swap _ _ _))))
       ·refine stepW_ef _ rfl rfl hF hS rfl (ef_allocA ty67) ?_
        clear hF hS; rintro _ _ _ a w ⟨b_1_13, rfl, rfl, rfl⟩ hF hS
        refine ⟨⟨.inr (hS.k1 (sQ.n.n.n.n.n)), .inr hS.k0, iQ, iQ, iQ, iQ, trivial⟩, ?_⟩
        refine gQ 11 rfl rfl hF hS rfl (ef_append ty23 ty4 2 rfl rfl rfl (src_slV ty23 hz zin0) bQ rfl (by decide)) ?_
        clear hF hS; rintro v_1_11 _ _ a w ⟨rfl, rfl⟩ hF hS
        refine ⟨⟨iQ, iQ, iQ, iQ, iQ, iQ, trivial⟩, ?_⟩
        refine goW_take 12 _ rfl kQ rfl hF (hS.keep sQ (zQ.k.k.k.n)) (q_buildS1 ty67 3 kQ rfl rfl (oc_cons (row_one (hS.own _ (List.mem_of_getElem? (i := 3) rfl)).1) (oc_cons (row_one (hS.own _ (List.mem_of_getElem? (i := 1) rfl)).1) (oc_cons (row_one (hS.own _ (List.mem_of_getElem? (i := 2) rfl)).1) oc_nil))) rfl rfl) ?_
        clear hF; intro a hF
        refine gQ 14 rfl rfl hF hS rfl (ef_storeW ty67 0 rfl rfl rfl rfl bQ (oc_cons (row_one (hS.own _ (List.mem_of_getElem? (i := 3) rfl)).1) (oc_cons (row_one (hS.own _ (List.mem_of_getElem? (i := 1) rfl)).1) (oc_cons (row_one (hS.own _ (List.mem_of_getElem? (i := 2) rfl)).1) oc_nil))) bQ) ?_
        clear hF hS; rintro _ _ _ a w ⟨rfl, rfl, rfl⟩ hF hS
        refine ⟨⟨iQ, iQ, iQ, iQ, iQ, iQ, iQ, trivial⟩, ?_⟩
        exact goW_done kQ (j7_mk v_1_0 v_1_3 v_1_4 v_1_7 v_1_8 v_1_11 b_1_13 (trivial) (hF.sub (L' := [(1, _), (2, _), (6, _), (7, _)]) ⟨rfl, rfl, rfl, rfl, trivial⟩) (hS.perm (.cons _ (.swap _ _ _))))
      ·refine stepW_ef _ rfl rfl hF hS rfl (ef_allocA ty67) ?_
       clear hF hS; rintro _ _ _ a w ⟨b_1_13, rfl, rfl, rfl⟩ hF hS
       refine ⟨⟨.inr (hS.k1 (sQ.n.n.n.n.n)), .inr hS.k0, .inr (hS.k1 (sQ.n.n.n.n.n)), .inr hS.k0, iQ, iQ, trivial⟩, ?_⟩
       refine gQ 7 rfl rfl hF hS rfl (ef_append ty22 ty3 1 rfl rfl rfl (src_slV ty22 hy zin0) bQ rfl (by decide)) ?_
       clear hF hS; rintro v_1_7 _ _ a w ⟨rfl, rfl⟩ hF hS
       refine ⟨⟨.inr (hS.k1 (sQ.n.n.n.n.n)), .inr hS.k0, iQ, iQ, iQ, iQ, trivial⟩, ?_⟩
       refine gQ 11 rfl rfl hF hS rfl (ef_append ty23 ty4 2 rfl rfl rfl (src_slV ty23 hz zin0) bQ rfl (by decide)) ?_
       clear hF hS; rintro v_1_11 _ _ a w ⟨rfl, rfl⟩ hF hS
       refine ⟨⟨iQ, iQ, iQ, iQ, iQ, iQ, trivial⟩, ?_⟩
       refine goW_take 12 _ rfl kQ rfl hF (hS.keep sQ (zQ.k.k.k.n)) (q_buildS1 ty67 3 kQ rfl rfl (oc_cons (row_one (hS.own _ (List.mem_of_getElem? (i := 3) rfl)).1) (oc_cons (row_one (hS.own _ (List.mem_of_getElem? (i := 1) rfl)).1) (oc_cons (row_one (hS.own _ (List.mem_of_getElem? (i := 2) rfl)).1) oc_nil))) rfl rfl) ?_
       clear hF; intro a hF
       refine gQ 14 rfl rfl hF hS rfl (ef_storeW ty67 0 rfl rfl rfl rfl bQ (oc_cons (row_one (hS.own _ (List.mem_of_getElem? (i := 3) rfl)).1) (oc_cons (row_one (hS.own _ (List.mem_of_getElem? (i := 1) rfl)).1) (oc_cons (row_one (hS.own _ (List.mem_of_getElem? (i := 2) rfl)).1) oc_nil))) bQ) ?_
       clear hF hS; rintro _ _ _ a w ⟨rfl, rfl, rfl⟩ hF hS
       refine ⟨⟨iQ, iQ, iQ, iQ, iQ, iQ, iQ, trivial⟩, ?_⟩
       exact goW_done kQ (j7_mk v_1_0 v_1_3 v_1_4 v_1_7 v_1_8 v_1_11 b_1_13 (trivial) (hF.sub (L' := [(1, _), (2, _), (6, _), (7, _)]) ⟨rfl, rfl, rfl, rfl, trivial⟩) (hS.perm (.cons _ (.swap _ _ _))))
     ·refine stepW_ef _ rfl rfl hF hS rfl (ef_allocA ty67) ?_
      clear hF hS; rintro _ _ _ a w ⟨b_1_13, rfl, rfl, rfl⟩ hF hS
      refine ⟨⟨.inr (hS.k1 (sQ.n.n.n.n)), .inr hS.k0, .inr (hS.k1 (sQ.n.n.n.n)), .inr hS.k0, iQ, iQ, trivial⟩, ?_⟩
      refine gQ 4 rfl rfl hF hS rfl (ef_bslice0 ty22 ty3) ?_
      clear hF hS; rintro v_1_4 _ _ a w ⟨rfl, rfl⟩ hF hS
      refine ⟨⟨.inr (hS.k1 (sQ.n.n.n.n.n)), .inr hS.k0, .inr (hS.k1 (sQ.n.n.n.n.n)), .inr hS.k0, iQ, iQ, trivial⟩, ?_⟩
      refine gQ 7 rfl rfl hF hS rfl (ef_append ty22 ty3 0 rfl rfl rfl (src_slV ty22 hy zin0) bQ rfl (by decide)) ?_
      clear hF hS; rintro v_1_7 _ _ a w ⟨rfl, rfl⟩ hF hS
      refine ⟨⟨.inr (hS.k1 (sQ.n.n.n.n.n)), .inr hS.k0, iQ, iQ, iQ, iQ, trivial⟩, ?_⟩
      refine gQ 11 rfl rfl hF hS rfl (ef_append ty23 ty4 2 rfl rfl rfl (src_slV ty23 hz zin0) bQ rfl (by decide)) ?_
      clear hF hS; rintro v_1_11 _ _ a w ⟨rfl, rfl⟩ hF hS
      refine ⟨⟨iQ, iQ, iQ, iQ, iQ, iQ, trivial⟩, ?_⟩
      refine goW_take 12 _ rfl kQ rfl hF (hS.keep sQ (zQ.k.k.n.k)) (q_buildS1 ty67 3 kQ rfl rfl (oc_cons (row_one (hS.own _ (List.mem_of_getElem? (i := 3) rfl)).1) (oc_cons (row_one (hS.own _ (List.mem_of_getElem? (i := 0) rfl)).1) (oc_cons (row_one (hS.own _ (List.mem_of_getElem? (i := 2) rfl)).1) oc_nil))) rfl rfl) ?_
      clear hF; intro a hF
      refine gQ 14 rfl rfl hF hS rfl (ef_storeW ty67 1 rfl rfl rfl rfl bQ (oc_cons (row_one (hS.own _ (List.mem_of_getElem? (i := 3) rfl)).1) (oc_cons (row_one (hS.own _ (List.mem_of_getElem? (i := 0) rfl)).1) (oc_cons (row_one (hS.own _ (List.mem_of_getElem? (i := 2) rfl)).1) oc_nil))) bQ) ?_
      clear hF hS; rintro _ _ _ a w ⟨rfl, rfl, rfl⟩ hF hS
      refine ⟨⟨iQ, iQ, iQ, iQ, iQ, iQ, iQ, trivial⟩, ?_⟩
      exact goW_done kQ (j7_mk v_1_0 v_1_3 v_1_4 v_1_7 v_1_8 v_1_11 b_1_13 (trivial) (hF.sub (L' := [(1, _), (2, _), (6, _), (7, _)]) ⟨rfl, rfl, rfl, rfl, trivial⟩) ((hS.perm (.swap _ _ _)).perm (.cons _ (.swap _ _ _))))
    ·refine stepW_ef _ rfl rfl hF hS rfl (ef_allocA ty67) ?_
     clear hF hS; rintro _ _ _ a w ⟨b_1_13, rfl, rfl, rfl⟩ hF hS
     refine ⟨⟨.inr (hS.k1 (sQ.n.n.n)), .inr hS.k0, .inr (hS.k1 (sQ.n.n.n)), .inr hS.k0, iQ, iQ, trivial⟩, ?_⟩
     refine goW_fork [4, 8] kQ rfl ⟨?_, ?_, trivial⟩
     ·refine stepW_ef _ rfl rfl hF hS rfl (ef_bslice0 ty22 ty3) ?_
      clear hF hS; rintro v_1_4 _ _ a w ⟨rfl, rfl⟩ hF hS
      refine ⟨⟨.inr (hS.k1 (sQ.n.n.n.n)), .inr hS.k0, .inr (hS.k1 (sQ.n.n.n.n)), .inr hS.k0, iQ, iQ, trivial⟩, ?_⟩
      refine goW_fork [7, 8] kQ rfl ⟨?_, ?_, trivial⟩
      ·refine stepW_ef _ rfl rfl hF hS rfl (ef_append ty22 ty3 0 rfl rfl rfl (src_slV ty22 hy zin0) bQ rfl (by decide)) ?_
       clear hF hS; rintro v_1_7 _ _ a w ⟨rfl, rfl⟩ hF hS
       refine ⟨⟨.inr (hS.k1 (sQ.n.n.n.n)), .inr hS.k0, iQ, iQ, iQ, iQ, trivial⟩, ?_⟩
       refine gQ 8 rfl rfl hF hS rfl (ef_bslice0 ty23 ty4) ?_
       clear hF hS; rintro v_1_8 _ _ a w ⟨rfl, rfl⟩ hF hS
       refine ⟨⟨.inr (hS.k1 (sQ.n.n.n.n.n)), .inr hS.k0, iQ, iQ, iQ, iQ, trivial⟩, ?_⟩
       refine gQ 11 rfl rfl hF hS rfl (ef_append ty23 ty4 0 rfl rfl rfl (src_slV ty23 hz zin0) bQ rfl (by decide)) ?_
       clear hF hS; rintro v_1_11 _ _ a w ⟨rfl, rfl⟩ hF hS
       refine ⟨⟨iQ, iQ, iQ, iQ, iQ, iQ, trivial⟩, ?_⟩
       refine goW_take 12 _ rfl kQ rfl hF (hS.keep sQ (zQ.k.n.k.k)) (q_buildS1 ty67 3 kQ rfl rfl (oc_cons (row_one (hS.own _ (List.mem_of_getElem? (i := 3) rfl)).1) (oc_cons (row_one (hS.own _ (List.mem_of_getElem? (i := 1) rfl)).1) (oc_cons (row_one (hS.own _ (List.mem_of_getElem? (i := 0) rfl)).1) oc_nil))) rfl rfl) ?_
       clear hF; intro a hF
       refine gQ 14 rfl rfl hF hS rfl (ef_storeW ty67 2 rfl rfl rfl rfl bQ (oc_cons (row_one (hS.own _ (List.mem_of_getElem? (i := 3) rfl)).1) (oc_cons (row_one (hS.own _ (List.mem_of_getElem? (i := 1) rfl)).1) (oc_cons (row_one (hS.own _ (List.mem_of_getElem? (i := 0) rfl)).1) oc_nil))) bQ) ?_
       clear hF hS; rintro _ _ _ a w ⟨rfl, rfl, rfl⟩ hF hS
       refine ⟨⟨iQ, iQ, iQ, iQ, iQ, iQ, iQ, trivial⟩, ?_⟩
       exact goW_done kQ (j7_mk v_1_0 v_1_3 v_1_4 v_1_7 v_1_8 v_1_11 b_1_13 (trivial) (hF.sub (L' := [(1, _), (2, _), (6, _), (7, _)]) ⟨rfl, rfl, rfl, rfl, trivial⟩) ((hS.perm (.cons _ (.swap _ _ _))).perm (.swap _ _ _)))
      ·refine stepW_ef _ rfl rfl hF hS rfl (ef_bslice0 ty23 ty4) ?_
       clear hF hS; rintro v_1_8 _ _ a w ⟨rfl, rfl⟩ hF hS
       refine ⟨⟨.inr (hS.k1 (sQ.n.n.n.n.n)), .inr hS.k0, .inr (hS.k1 (sQ.n.n.n.n.n)), .inr hS.k0, iQ, iQ, trivial⟩, ?_⟩
       refine gQ 7 rfl rfl hF hS rfl (ef_append ty22 ty3 1 rfl rfl rfl (src_slV ty22 hy zin0) bQ rfl (by decide)) ?_
       clear hF hS; rintro v_1_7 _ _ a w ⟨rfl, rfl⟩ hF hS
       refine ⟨⟨.inr (hS.k1 (sQ.n.n.n.n.n)), .inr hS.k0, iQ, iQ, iQ, iQ, trivial⟩, ?_⟩
       refine gQ 11 rfl rfl hF hS rfl (ef_append ty23 ty4 0 rfl rfl rfl (src_slV ty23 hz zin0) bQ rfl (by decide)) ?_
       clear hF hS; rintro v_1_11 _ _ a w ⟨rfl, rfl⟩ hF hS
       refine ⟨⟨iQ, iQ, iQ, iQ, iQ, iQ, trivial⟩, ?_⟩
       refine goW_take 12 _ rfl kQ rfl hF (hS.keep sQ (zQ.k.n.k.k)) (q_buildS1 ty67 3 kQ rfl rfl (oc_cons (row_one (hS.own _ (List.mem_of_getElem? (i := 3) rfl)).1) (oc_cons (row_one (hS.own _ (List.mem_of_getElem? (i := 1) rfl)).1) (oc_cons (row_one (hS.own _ (List.mem_of_getElem? (i := 0) rfl)).1) oc_nil))) rfl rfl) ?_
       clear hF; intro a hF
       refine gQ 14 rfl rfl hF hS rfl (ef_storeW ty67 2 rfl rfl rfl rfl bQ (oc_cons (row_one (hS.own _ (List.mem_of_getElem? (i := 3) rfl)).1) (oc_cons (row_one (hS.own _ (List.mem_of_getElem? (i := 1) rfl)).1) (oc_cons (row_one (hS.own _ (List.mem_of_getElem? (i := 0) rfl)).1) oc_nil))) bQ) ?_
       clear hF hS; rintro _ _ _ a w ⟨rfl, rfl, rfl⟩ hF hS
       refine ⟨⟨iQ, iQ, iQ, iQ, iQ, iQ, iQ, trivial⟩, ?_⟩
       exact goW_done kQ (j7_mk v_1_0 v_1_3 v_1_4 v_1_7 v_1_8 v_1_11 b_1_13 (trivial) (hF.sub (L' := [(1, _), (2, _), (6, _), (7, _)]) ⟨rfl, rfl, rfl, rfl, trivial⟩) ((hS.perm (.cons _ (.swap _ _ _))).perm (.swap _ _ _)))
     ·refine stepW_ef _ rfl rfl hF hS rfl (ef_bslice0 ty23 ty4) ?_
      clear hF hS; rintro v_1_8 _ _ a w ⟨rfl, rfl⟩ hF hS
      refine ⟨⟨.inr (hS.k1 (sQ.n.n.n.n)), .inr hS.k0, .inr (hS.k1 (sQ.n.n.n.n)), .inr hS.k0, iQ, iQ, trivial⟩, ?_⟩
      refine gQ 4 rfl rfl hF hS rfl (ef_bslice0 ty22 ty3) ?_
      clear hF hS; rintro v_1_4 _ _ a w ⟨rfl, rfl⟩ hF hS
      refine ⟨⟨.inr (hS.k1 (sQ.n.n.n.n.n)), .inr hS.k0, .inr (hS.k1 (sQ.n.n.n.n.n)), .inr hS.k0, iQ, iQ, trivial⟩, ?_⟩
      refine gQ 7 rfl rfl hF hS rfl (ef_append ty22 ty3 0 rfl rfl rfl (src_slV ty22 hy zin0) bQ rfl (by decide)) ?_
      clear hF hS; rintro v_1_7 _ _ a w ⟨rfl, rfl⟩ hF hS
      refine ⟨⟨.inr (hS.k1 (sQ.n.n.n.n.n)), .inr hS.k0, iQ, iQ, iQ, iQ, trivial⟩, ?_⟩
      refine gQ 11 rfl rfl hF hS rfl (ef_append ty23 ty4 1 rfl rfl rfl (src_slV ty23 hz zin0) bQ rfl (by decide)) ?_
      clear hF hS; rintro v_1_11 _ _ a w ⟨rfl, rfl⟩ hF hS
      refine ⟨⟨iQ, iQ, iQ, iQ, iQ, iQ, trivial⟩, ?_⟩
      refine goW_take 12 _ rfl kQ rfl hF (hS.keep sQ (zQ.k.n.k.k)) (q_buildS1 ty67 3 kQ rfl rfl (oc_cons (row_one (hS.own _ (List.mem_of_getElem? (i := 3) rfl)).1) (oc_cons (row_one (hS.own _ (List.mem_of_getElem? (i := 0) rfl)).1) (oc_cons (row_one (hS.own _ (List.mem_of_getElem? (i := 1) rfl)).1) oc_nil))) rfl rfl) ?_
      clear hF; intro a hF
      refine gQ 14 rfl rfl hF hS rfl (ef_storeW ty67 2 rfl rfl rfl rfl bQ (oc_cons (row_one (hS.own _ (List.mem_of_getElem? (i := 3) rfl)).1) (oc_cons (row_one (hS.own _ (List.mem_of_getElem? (i := 0) rfl)).1) (oc_cons (row_one (hS.own _ (List.mem_of_getElem? (i := 1) rfl)).1) oc_nil))) bQ) ?_
      clear hF hS; rintro _ _ _ a w ⟨rfl, rfl, rfl⟩ hF hS
      refine ⟨⟨iQ, iQ, iQ, iQ, iQ, iQ, iQ, trivial⟩, ?_⟩
      exact goW_done kQ (j7_mk v_1_0 v_1_3 v_1_4 v_1_7 v_1_8 v_1_11 b_1_13 (trivial) (hF.sub (L' := [(1, _), (2, _), (6, _), (7, _)]) ⟨rfl, rfl, rfl, rfl, trivial⟩) (((hS.perm (.cons _ (.swap _ _ _))).perm (.swap _ _ _)).perm (.cons _ (.swap _ _ _))))
   ·refine stepW_ef _ rfl rfl hF hS rfl (ef_bslice0 ty22 ty3) ?_
    clear hF hS; rintro v_1_4 _ _ a w ⟨rfl, rfl⟩ hF hS
    refine ⟨⟨.inr (hS.k1 (sQ.n.n.n)), .inr hS.k0, .inr (hS.k1 (sQ.n.n.n)), .inr hS.k0, .inr (hS.k1 (sQ.n.n.n)), .inr hS.k0, trivial⟩, ?_⟩
    refine goW_fork [3, 8, 13] kQ rfl ⟨?_, ?_, ?_, trivial⟩
    ·refine stepW_ef _ rfl rfl hF hS rfl (ef_append ty22 ty3 1 rfl rfl rfl (src_slV ty22 hx zin0) bQ rfl (by decide)) ?_
     clear hF hS; rintro v_1_3 _ _ a w ⟨rfl, rfl⟩ hF hS
     refine ⟨⟨.inr (hS.k1 (sQ.n.n.n)), .inr hS.k0, .inr (hS.k1 (sQ.n.n.n)), .inr hS.k0, iQ, iQ, trivial⟩, ?_⟩
     refine goW_fork [7, 8, 13] kQ rfl ⟨?_, ?_, ?_, trivial⟩
     ·refine stepW_ef _ rfl rfl hF hS rfl (ef_append ty22 ty3 0 rfl rfl rfl (src_slV ty22 hy zin0) bQ rfl (by decide)) ?_
      clear hF hS; rintro v_1_7 _ _ a w ⟨rfl, rfl⟩ hF hS
      refine ⟨⟨.inr (hS.k1 (sQ.n.n.n)), .inr hS.k0, iQ, iQ, iQ, iQ, trivial⟩, ?_⟩
      refine goW_fork [8, 13] kQ rfl ⟨?_, ?_, trivial⟩
      ·refine stepW_ef _ rfl rfl hF hS rfl (ef_bslice0 ty23 ty4) ?_
       clear hF hS; rintro v_1_8 _ _ a w ⟨rfl, rfl⟩ hF hS
       refine ⟨⟨.inr (hS.k1 (sQ.n.n.n.n)), .inr hS.k0, iQ, iQ, iQ, iQ, trivial⟩, ?_⟩
       refine goW_fork [11, 13] kQ rfl ⟨?_, ?_, trivial⟩
       ·refine stepW_ef _ rfl rfl hF hS rfl (ef_append ty23 ty4 0 rfl rfl rfl (src_slV ty23 hz zin0) bQ rfl (by decide)) ?_
        clear hF hS; rintro v_1_11 _ _ a w ⟨rfl, rfl⟩ hF hS
        refine ⟨⟨iQ, iQ, iQ, iQ, iQ, iQ, trivial⟩, ?_⟩
        refine goW_take 12 _ rfl kQ rfl hF (hS.keep sQ (zQ.k.k.k)) (q_buildS1 ty67 3 kQ rfl rfl (oc_cons (row_one (hS.own _ (List.mem_of_getElem? (i := 2) rfl)).1) (oc_cons (row_one (hS.own _ (List.mem_of_getElem? (i := 1) rfl)).1) (oc_cons (row_one (hS.own _ (List.mem_of_getElem? (i := 0) rfl)).1) oc_nil))) rfl rfl) ?_
        clear hF; intro a hF
        refine gQ 13 rfl rfl hF hS rfl (ef_allocA ty67) ?_
        clear hF hS; rintro _ _ _ a w ⟨b_1_13, rfl, rfl, rfl⟩ hF hS
        refine ⟨⟨.inr (hS.k1 (zQ.k.k.k.n)), iQ, iQ, iQ, iQ, iQ, iQ, trivial⟩, ?_⟩
        refine gQ 14 rfl rfl hF hS rfl (ef_storeW ty67 0 rfl rfl rfl rfl bQ (oc_cons (row_one (hS.own _ (List.mem_of_getElem? (i := 3) rfl)).1) (oc_cons (row_one (hS.own _ (List.mem_of_getElem? (i := 2) rfl)).1) (oc_cons (row_one (hS.own _ (List.mem_of_getElem? (i := 1) rfl)).1) oc_nil))) bQ) ?_
        clear hF hS; rintro _ _ _ a w ⟨rfl, rfl, rfl⟩ hF hS
        refine ⟨⟨iQ, iQ, iQ, iQ, iQ, iQ, iQ, trivial⟩, ?_⟩
        exact goW_done kQ (j7_mk v_1_0 v_1_3 v_1_4 v_1_7 v_1_8 v_1_11 b_1_13 (trivial) (hF.sub (L' := [(1, _), (2, _), (6, _), (7, _)]) ⟨rfl, rfl, rfl, rfl, trivial⟩) hS)
       ·refine stepW_ef _ rfl rfl hF hS rfl (ef_allocA ty67) ?_
        clear hF hS; rintro _ _ _ a w ⟨b_1_13, rfl, rfl, rfl⟩ hF hS
        refine ⟨⟨.inr (hS.k1 (sQ.n.n.n.n.n)), .inr hS.k0, iQ, iQ, iQ, iQ, trivial⟩, ?_⟩
        refine gQ 11 rfl rfl hF hS rfl (ef_append ty23 ty4 1 rfl rfl rfl (src_slV ty23 hz zin0) bQ rfl (by decide)) ?_
        clear hF hS; rintro v_1_11 _ _ a w ⟨rfl, rfl⟩ hF hS
        refine ⟨⟨iQ, iQ, iQ, iQ, iQ, iQ, trivial⟩, ?_⟩
        refine goW_take 12 _ rfl kQ rfl hF (hS.keep sQ (zQ.k.k.k.n)) (q_buildS1 ty67 3 kQ rfl rfl (oc_cons (row_one (hS.own _ (List.mem_of_getElem? (i := 3) rfl)).1) (oc_cons (row_one (hS.own _ (List.mem_of_getElem? (i := 2) rfl)).1) (oc_cons (row_one (hS.own _ (List.mem_of_getElem? (i := 1) rfl)).1) oc_nil))) rfl rfl) ?_
        clear hF; intro a hF
        refine gQ 14 rfl rfl hF hS rfl (ef_storeW ty67 0 rfl rfl rfl rfl bQ (oc_cons (row_one (hS.own _ (List.mem_of_getElem? (i := 3) rfl)).1) (oc_cons (row_one (hS.own _ (List.mem_of_getElem? (i := 2) rfl)).1) (oc_cons (row_one (hS.own _ (List.mem_of_getElem? (i := 1) rfl)).1) oc_nil))) bQ) ?_
        clear hF hS; rintro _ _ _ a w ⟨rfl, rfl, rfl⟩ hF hS
        refine ⟨⟨iQ, iQ, iQ, iQ, iQ, iQ, iQ, trivial⟩, ?_⟩
        exact goW_done kQ (j7_mk v_1_0 v_1_3 v_1_4 v_1_7 v_1_8 v_1_11 b_1_13 (trivial) (hF.sub (L' := [(1, _), (2, _), (6, _), (7, _)]) ⟨rfl, rfl, rfl, rfl, trivial⟩) hS)
      ·refine stepW_ef _ rfl rfl hF hS rfl (ef_allocA ty67) ?_
       clear hF hS; rintro _ _ _ a w ⟨b_1_13, rfl, rfl, rfl⟩ hF hS
       refine ⟨⟨.inr (hS.k1 (sQ.n.n.n.n)), .inr hS.k0, iQ, iQ, iQ, iQ, trivial⟩, ?_⟩
       refine gQ 8 rfl rfl hF hS rfl (ef_bslice0 ty23 ty4) ?_
       clear hF hS; rintro v_1_8 _ _ a w ⟨rfl, rfl⟩ hF hS
       refine ⟨⟨.inr (hS.k1 (sQ.n.n.n.n.n)), .inr hS.k0, iQ, iQ, iQ, iQ, trivial⟩, ?_⟩
       refine gQ 11 rfl rfl hF hS rfl (ef_append ty23 ty4 0 rfl rfl rfl (src_slV ty23 hz zin0) bQ rfl (by decide)) ?_
       clear hF hS; rintro v_1_11 _ _ a w ⟨rfl, rfl⟩ hF hS
       refine ⟨⟨iQ, iQ, iQ, iQ, iQ, iQ, trivial⟩, ?_⟩
       refine goW_take 12 _ rfl kQ rfl hF (hS.keep sQ (zQ.k.k.n.k)) (q_buildS1 ty67 3 kQ rfl rfl (oc_cons (row_one (hS.own _ (List.mem_of_getElem? (i := 3) rfl)).1) (oc_cons (row_one (hS.own _ (List.mem_of_getElem? (i := 2) rfl)).1) (oc_cons (row_one (hS.own _ (List.mem_of_getElem? (i := 0) rfl)).1) oc_nil))) rfl rfl) ?_
       clear hF; intro a hF
       refine gQ 14 rfl rfl hF hS rfl (ef_storeW ty67 1 rfl rfl rfl rfl bQ (oc_cons (row_one (hS.own _ (List.mem_of_getElem? (i := 3) rfl)).1) (oc_cons (row_one (hS.own _ (List.mem_of_getElem? (i := 2) rfl)).1) (oc_cons (row_one (hS.own _ (List.mem_of_getElem? (i := 0) rfl)).1) oc_nil))) bQ) ?_
       clear hF hS; rintro _ _ _ a w ⟨rfl, rfl, rfl⟩ hF hS
       refine ⟨⟨iQ, iQ, iQ, iQ, iQ, iQ, iQ, trivial⟩, ?_⟩
       exact goW_done kQ (j7_mk v_1_0 v_1_3 v_1_4 v_1_7 v_1_8 v_1_11 b_1_13 (trivial) (hF.sub (L' := [(1, _), (2, _), (6, _), (7, _)]) ⟨rfl, rfl, rfl, rfl, trivial⟩) (hS.perm (.swap _ _ _)))
     ·refine stepW_ef _ rfl rfl hF hS rfl (ef_bslice0 ty23 ty4) ?_
      clear hF hS; rintro v_1_8 _ _ a w ⟨rfl, rfl⟩ hF hS
      refine ⟨⟨.inr (hS.k1 (sQ.n.n.n.n)), .inr hS.k0, .inr (hS.k1 (sQ.n.n.n.n)), .inr hS.k0, iQ, iQ, trivial⟩, ?_⟩
      refine goW_fork [7, 13] kQ rfl ⟨?_, ?_, trivial⟩
      ·refine stepW_ef _ rfl rfl hF hS rfl (ef_append ty22 ty3 1 rfl rfl rfl (src_slV ty22 hy zin0) bQ rfl (by decide)) ?_
       clear hF hS; rintro v_1_7 _ _ a w ⟨rfl, rfl⟩ hF hS
       refine ⟨⟨.inr (hS.k1 (sQ.n.n.n.n)), .inr hS.k0, iQ, iQ, iQ, iQ, trivial⟩, ?_⟩
       refine goW_fork [11, 13] kQ rfl ⟨?_, ?_, trivial⟩
       ·refine stepW_ef _ rfl rfl hF hS rfl (ef_append ty23 ty4 0 rfl rfl rfl (src_slV ty23 hz zin0) bQ rfl (by decide)) ?_
        clear hF hS; rintro v_1_11 _ _ a w ⟨rfl, rfl⟩ hF hS
        refine ⟨⟨iQ, iQ, iQ, iQ, iQ, iQ, trivial⟩, ?_⟩
        refine goW_take 12 _ rfl kQ rfl hF (hS.keep sQ (zQ.k.k.k)) (q_buildS1 ty67 3 kQ rfl rfl (oc_cons (row_one (hS.own _ (List.mem_of_getElem? (i := 2) rfl)).1) (oc_cons (row_one (hS.own _ (List.mem_of_getElem? (i := 1) rfl)).1) (oc_cons (row_one (hS.own _ (List.mem_of_getElem? (i := 0) rfl)).1) oc_nil))) rfl rfl) ?_
        clear hF; intro a hF
        refine gQ 13 rfl rfl hF hS rfl (ef_allocA ty67) ?_
        clear hF hS; rintro _ _ _ a w ⟨b_1_13, rfl, rfl, rfl⟩ hF hS
        refine ⟨⟨.inr (hS.k1 (zQ.k.k.k.n)), iQ, iQ, iQ, iQ, iQ, iQ, trivial⟩, ?_⟩
        refine gQ 14 rfl rfl hF hS rfl (ef_storeW ty67 0 rfl rfl rfl rfl bQ (oc_cons (row_one (hS.own _ (List.mem_of_getElem? (i := 3) rfl)).1) (oc_cons (row_one (hS.own _ (List.mem_of_getElem? (i := 2) rfl)).1) (oc_cons (row_one (hS.own _ (List.mem_of_getElem? (i := 1) rfl)).1) oc_nil))) bQ) ?_
        clear hF hS; rintro _ _ _ a w ⟨rfl, rfl, rfl⟩ hF hS
        refine ⟨⟨iQ, iQ, iQ, iQ, iQ, iQ, iQ, trivial⟩, ?_⟩
        exact goW_done kQ (j7_mk v_1_0 v_1_3 v_1_4 v_1_7 v_1_8 v_1_11 b_1_13 (trivial) (hF.sub (L' := [(1, _), (2, _), (6, _), (7, _)]) ⟨rfl, rfl, rfl, rfl, trivial⟩) hS)
       ·refine stepW_ef _ rfl rfl hF hS rfl (ef_allocA ty67) ?_
        clear hF hS; rintro _ _ _ a w ⟨b_1_13, rfl, rfl, rfl⟩ hF hS
        refine ⟨⟨.inr (hS.k1 (sQ.n.n.n.n.n)), .inr hS.k0, iQ, iQ, iQ, iQ, trivial⟩, ?_⟩
        refine gQ 11 rfl rfl hF hS rfl (ef_append ty23 ty4 1 rfl rfl rfl (src_slV ty23 hz zin0) bQ rfl (by decide)) ?_
        clear hF hS; rintro v_1_11 _ _ a w ⟨rfl, rfl⟩ hF hS
        refine ⟨⟨iQ, iQ, iQ, iQ, iQ, iQ, trivial⟩, ?_⟩
        refine goW_take 12 _ rfl kQ rfl hF (hS.keep sQ (zQ.k.k.k.n)) (q_buildS1 ty67 3 kQ rfl rfl (oc_cons (row_one (hS.own _ (List.mem_of_getElem? (i := 3) rfl)).1) (oc_cons (row_one (hS.own _ (List.mem_of_getElem? (i := 2) rfl)).1) (oc_cons (row_one (hS.own _ (List.mem_of_getElem? (i := 1) rfl)).1) oc_nil))) rfl rfl) ?_
        clear hF; intro a hF
        refine gQ 14 rfl rfl hF hS rfl (ef_storeW ty67 0 rfl rfl rfl rfl bQ (oc_cons (row_one (hS.own _ (List.mem_of_getElem? (i := 3) rfl)).1) (oc_cons (row_one (hS.own _ (List.mem_of_getElem? (i := 2) rfl)).1) (oc_cons (row_one (hS.own _ (List.mem_of_getElem? (i := 1) rfl)).1) oc_nil))) bQ) ?_
        clear hF hS; rintro _ _ _ a w ⟨rfl, rfl, rfl⟩ hF hS
        refine ⟨⟨iQ, iQ, iQ, iQ, iQ, iQ, iQ, trivial⟩, ?_⟩
        exact goW_done kQ (j7_mk v_1_0 v_1_3 v_1_4 v_1_7 v_1_8 v_1_11 b_1_13 (trivial) (hF.sub (L' := [(1, _), (2, _), (6, _), (7, _)]) ⟨rfl, rfl, rfl, rfl, trivial⟩) hS)
      ·refine stepW_ef _ rfl rfl hF hS rfl (ef_allocA ty67) ?_
       clear hF hS; rintro _ _ _ a w ⟨b_1_13, rfl, rfl, rfl⟩ hF hS
       refine ⟨⟨.inr (hS.k1 (sQ.n.n.n.n.n)), .inr hS.k0, .inr (hS.k1 (sQ.n.n.n.n.n)), .inr hS.k0, iQ, iQ, trivial⟩, ?_⟩
       refine gQ 7 rfl rfl hF hS rfl (ef_append ty22 ty3 2 rfl rfl rfl (src_slV ty22 hy zin0) bQ rfl (by decide)) ?_
       clear hF hS; rintro v_1_7 _ _ a w ⟨rfl, rfl⟩ hF hS
       refine ⟨⟨.inr (hS.k1 (sQ.n.n.n.n.n)), .inr hS.k0, iQ, iQ, iQ, iQ, trivial⟩, ?_⟩
       refine gQ 11 rfl rfl hF hS rfl (ef_append ty23 ty4 1 rfl rfl rfl (src_slV ty23 hz zin0) bQ rfl (by decide)) ?_
       clear hF hS; rintro v_1_11 _ _ a w ⟨rfl, rfl⟩ hF hS
       refine ⟨⟨iQ, iQ, iQ, iQ, iQ, iQ, trivial⟩, ?_⟩
       refine goW_take 12 _ rfl kQ rfl hF (hS.keep sQ (zQ.k.k.k.n)) (q_buildS1 ty67 3 kQ rfl rfl (oc_cons (row_one (hS.own _ (List.mem_of_getElem? (i := 3) rfl)).1) (oc_cons (row_one (hS.own _ (List.mem_of_getElem? (i := 2) rfl)).1) (oc_cons (row_one (hS.own _ (List.mem_of_getElem? (i := 1) rfl)).1) oc_nil))) rfl rfl) ?_
       clear hF; intro a hF
       refine gQ 14 rfl rfl hF hS rfl (ef_storeW ty67 0 rfl rfl rfl rfl bQ (oc_cons (row_one (hS.own _ (List.mem_of_getElem? (i := 3) rfl)).1) (oc_cons (row_one (hS.own _ (List.mem_of_getElem? (i := 2) rfl)).1) (oc_cons (row_one (hS.own _ (List.mem_of_getElem? (i := 1) rfl)).1) oc_nil))) bQ) ?_
       clear hF hS; rintro _ _ _ a w ⟨rfl, rfl, rfl⟩ hF hS
       refine ⟨⟨iQ, iQ, iQ, iQ, iQ, iQ, iQ, trivial⟩, ?_⟩
       exact goW_done kQ (j7_mk v_1_0 v_1_3 v_1_4 v_1_7 v_1_8 v_1_11 b_1_13 (trivial) (hF.sub (L' := [(1, _), (2, _), (6, _), (7, _)]) ⟨rfl, rfl, rfl, rfl, trivial⟩) hS)
     ·refine stepW_ef _ rfl rfl hF hS rfl (ef_allocA ty67) ?_
      clear hF hS; rintro _ _ _ a w ⟨b_1_13, rfl, rfl, rfl⟩ hF hS
      refine ⟨⟨.inr (hS.k1 (sQ.n.n.n.n)), .inr hS.k0, .inr (hS.k1 (sQ.n.n.n.n)), .inr hS.k0, iQ, iQ, trivial⟩, ?_⟩
      refine goW_fork [7, 8] kQ rfl ⟨?_, ?_, trivial⟩
      ·refine stepW_ef _ rfl rfl hF hS rfl (ef_append ty22 ty3 1 rfl rfl rfl (src_slV ty22 hy zin0) bQ rfl (by decide)) ?_
       clear hF hS; rintro v_1_7 _ _ a w ⟨rfl, rfl⟩ hF hS
       refine ⟨⟨.inr (hS.k1 (sQ.n.n.n.n)), .inr hS.k0, iQ, iQ, iQ, iQ, trivial⟩, ?_⟩
       refine gQ 8 rfl rfl hF hS rfl (ef_bslice0 ty23 ty4) ?_
       clear hF hS; rintro v_1_8 _ _ a w ⟨rfl, rfl⟩ hF hS
       refine ⟨⟨.inr (hS.k1 (sQ.n.n.n.n.n)), .inr hS.k0, iQ, iQ, iQ, iQ, trivial⟩, ?_⟩
       refine gQ 11 rfl rfl hF hS rfl (ef_append ty23 ty4 0 rfl rfl rfl (src_slV ty23 hz zin0) bQ rfl (by decide)) ?_
       clear hF hS; rintro v_1_11 _ _ a w ⟨rfl, rfl⟩ hF hS
       refine ⟨⟨iQ, iQ, iQ, iQ, iQ, iQ, trivial⟩, ?_⟩
       refine goW_take 12 _ rfl kQ rfl hF (hS.keep sQ (zQ.k.k.n.k)) (q_buildS1 ty67 3 kQ rfl rfl (oc_cons (row_one (hS.own _ (List.mem_of_getElem? (i := 3) rfl)).1) (oc_cons (row_one (hS.own _ (List.mem_of_getElem? (i := 2) rfl)).1) (oc_cons (row_one (hS.own _ (List.mem_of_getElem? (i := 0) rfl)).1) oc_nil))) rfl rfl) ?_
       clear hF; intro a hF
       refine gQ 14 rfl rfl hF hS rfl (ef_storeW ty67 1 rfl rfl rfl rfl bQ (oc_cons (row_one (hS.own _ (List.mem_of_getElem? (i := 3) rfl)).1) (oc_cons (row_one (hS.own _ (List.mem_of_getElem? (i := 2) rfl)).1) (oc_cons (row_one (hS.own _ (List.mem_of_getElem? (i := 0) rfl)).1) oc_nil))) bQ) ?_
       clear hF hS; rintro _ _ _ a w ⟨rfl, rfl, rfl⟩ hF hS
       refine ⟨⟨iQ, iQ, iQ, iQ, iQ, iQ, iQ, trivial⟩, ?_⟩
       exact goW_done kQ (j7_mk v_1_0 v_1_3 v_1_4 v_1_7 v_1_8 v_1_11 b_1_13 (trivial) (hF.sub (L' := [(1, _), (2, _), (6, _), (7, _)]) ⟨rfl, rfl, rfl, rfl, trivial⟩) (hS.perm (.swap _ _ _)))
      ·refine stepW_ef _ rfl rfl hF hS rfl (ef_bslice0 ty23 ty4) ?_
       clear hF hS; rintro v_1_8 _ _ a w ⟨rfl, rfl⟩ hF hS
       refine ⟨⟨.inr (hS.k1 (sQ.n.n.n.n.n)), .inr hS.k0, .inr (hS.k1 (sQ.n.n.n.n.n)), .inr hS.k0, iQ, iQ, trivial⟩, ?_⟩
       refine gQ 7 rfl rfl hF hS rfl (ef_append ty22 ty3 2 rfl rfl rfl (src_slV ty22 hy zin0) bQ rfl (by decide)) ?_
       clear hF hS; rintro v_1_7 _ _ a w ⟨rfl, rfl⟩ hF hS
       refine ⟨⟨.inr (hS.k1 (sQ.n.n.n.n.n)), .inr hS.k0, iQ, iQ, iQ, iQ, trivial⟩, ?_⟩
       refine gQ 11 rfl rfl hF hS rfl (ef_append ty23 ty4 0 rfl rfl rfl (src_slV ty23 hz zin0) bQ rfl (by decide)) ?_
       clear hF hS; rintro v_1_11 _ _ a w ⟨rfl, rfl⟩ hF hS
       refine ⟨⟨iQ, iQ, iQ, iQ, iQ, iQ, trivial⟩, ?_⟩
       refine goW_take 12 _ rfl kQ rfl hF (hS.keep sQ (zQ.k.k.n.k)) (q_buildS1 ty67 3 kQ rfl rfl (oc_cons (row_one (hS.own _ (List.mem_of_getElem? (i := 3) rfl)).1) (oc_cons (row_one (hS.own _ (List.mem_of_getElem? (i := 2) rfl)).1) (oc_cons (row_one (hS.own _ (List.mem_of_getElem? (i := 0) rfl)).1) oc_nil))) rfl rfl) ?_
       clear hF; intro a hF
       refine gQ 14 rfl rfl hF hS rfl (ef_storeW ty67 1 rfl rfl rfl rfl bQ (oc_cons (row_one (hS.own _ (List.mem_of_getElem? (i := 3) rfl)).1) (oc_cons (row_one (hS.own _ (List.mem_of_getElem? (i := 2) rfl)).1) (oc_cons (row_one (hS.own _ (List.mem_of_getElem? (i := 0) rfl)).1) oc_nil))) bQ) ?_
       clear hF hS; rintro _ _ _ a w ⟨rfl, rfl, rfl⟩ hF hS
       refine ⟨⟨iQ, iQ, iQ, iQ, iQ, iQ, iQ, trivial⟩, ?_⟩
       exact goW_done kQ (j7_mk v_1_0 v_1_3 v_1_4 v_1_7 v_1_8 v_1_11 b_1_13 (trivial) (hF.sub (L' := [(1, _), (2, _), (6, _), (7, _)]) ⟨rfl, rfl, rfl, rfl, trivial⟩) (hS.perm (.swap _ _ _)))
    ·refine stepW_ef _ rfl rfl hF hS rfl (ef_bslice0 ty23 ty4) ?_
     clear hF hS; rintro v_1_8 _ _ a w ⟨rfl, rfl⟩ hF hS
     refine ⟨⟨.inr (hS.k1 (sQ.n.n.n.n)), .inr hS.k0, .inr (hS.k1 (sQ.n.n.n.n)), .inr hS.k0, .inr (hS.k1 (sQ.n.n.n.n)), .inr hS.k0, trivial⟩, ?_⟩
     refine goW_fork [3, 13] kQ rfl ⟨?_, ?_, trivial⟩
     ·refine stepW_ef _ rfl rfl hF hS rfl (ef_append ty22 ty3 2 rfl rfl rfl (src_slV ty22 hx zin0) bQ rfl (by decide)) ?_
      clear hF hS; rintro v_1_3 _ _ a w ⟨rfl, rfl⟩ hF hS
      refine ⟨⟨.inr (hS.k1 (sQ.n.n.n.n)), .inr hS.k0, .inr (hS.k1 (sQ.n.n.n.n)), .inr hS.k0, iQ, iQ, trivial⟩, ?_⟩
      refine goW_fork [7, 13] kQ rfl ⟨?_, ?_, trivial⟩
      ·refine stepW_ef _ rfl rfl hF hS rfl (ef_append ty22 ty3 1 rfl rfl rfl (src_slV ty22 hy zin0) bQ rfl (by decide)) ?_
       clear hF hS; rintro v_1_7 _ _ a w ⟨rfl, rfl⟩ hF hS
       refine ⟨⟨.inr (hS.k1 (sQ.n.n.n.n)), .inr hS.k0, iQ, iQ, iQ, iQ, trivial⟩, ?_⟩
       refine goW_fork [11, 13] kQ rfl ⟨?_, ?_, trivial⟩
       ·refine stepW_ef _ rfl rfl hF hS rfl (ef_append ty23 ty4 0 rfl rfl rfl (src_slV ty23 hz zin0) bQ rfl (by decide)) ?_
        clear hF hS; rintro v_1_11 _ _ a w ⟨rfl, rfl⟩ hF hS
        refine ⟨⟨iQ, iQ, iQ, iQ, iQ, iQ, trivial⟩, ?_⟩
        refine goW_take 12 _ rfl kQ rfl hF (hS.keep sQ (zQ.k.k.k)) (q_buildS1 ty67 3 kQ rfl rfl (oc_cons (row_one (hS.own _ (List.mem_of_getElem? (i := 2) rfl)).1) (oc_cons (row_one (hS.own _ (List.mem_of_getElem? (i := 1) rfl)).1) (oc_cons (row_one (hS.own _ (List.mem_of_getElem? (i := 0) rfl)).1) oc_nil))) rfl rfl) ?_
        clear hF; intro a hF
        refine gQ 13 rfl rfl hF hS rfl (ef_allocA ty67) ?_
        clear hF hS; rintro _ _ _ a w ⟨b_1_13, rfl, rfl, rfl⟩ hF hS
        refine ⟨⟨.inr (hS.k1 (zQ.k.k.k.n)), iQ, iQ, iQ, iQ, iQ, iQ, trivial⟩, ?_⟩
        refine gQ 14 rfl rfl hF hS rfl (ef_storeW ty67 0 rfl rfl rfl rfl bQ (oc_cons (row_one (hS.own _ (List.mem_of_getElem? (i := 3) rfl)).1) (oc_cons (row_one (hS.own _ (List.mem_of_getElem? (i := 2) rfl)).1) (oc_cons (row_one (hS.own _ (List.mem_of_getElem? (i := 1) rfl)).1) oc_nil))) bQ) ?_
        clear hF hS; rintro _ _ _ a w ⟨rfl, rfl, rfl⟩ hF hS
        refine ⟨⟨iQ, iQ, iQ, iQ, iQ, iQ, iQ, trivial⟩, ?_⟩
        exact goW_done kQ (j7_mk v_1_0 v_1_3 v_1_4 v_1_7 v_1_8 v_1_11 b_1_13 (trivial) (hF.sub (L' := [(1, _), (2, _), (6, _), (7, _)]) ⟨rfl, rfl, rfl, rfl, trivial⟩) hS)
       ·refine stepW_ef _ rfl rfl hF hS rfl (ef_allocA ty67) ?_
        clear hF hS; rintro _ _ _ a w ⟨b_1_13, rfl, rfl, rfl⟩ hF hS
        refine ⟨⟨.inr (hS.k1 (sQ.n.n.n.n.n)), .inr hS.k0, iQ, iQ, iQ, iQ, trivial⟩, ?_⟩
        refine gQ 11 rfl rfl hF hS rfl (ef_append ty23 ty4 1 rfl rfl rfl (src_slV ty23 hz zin0) bQ rfl (by decide)) ?_
        clear hF hS; rintro v_1_11 _ _ a w ⟨rfl, rfl⟩ hF hS
        refine ⟨⟨iQ, iQ, iQ, iQ, iQ, iQ, trivial⟩, ?_⟩
        refine goW_take 12 _ rfl kQ rfl hF (hS.keep sQ (zQ.k.k.k.n)) (q_buildS1 ty67 3 kQ rfl rfl (oc_cons (row_one (hS.own _ (List.mem_of_getElem? (i := 3) rfl)).1) (oc_cons (row_one (hS.own _ (List.mem_of_getElem? (i := 2) rfl)).1) (oc_cons (row_one (hS.own _ (List.mem_of_getElem? (i := 1) rfl)).1) oc_nil))) rfl rfl) ?_
        clear hF; intro a hF
        refine gQ 14 rfl rfl hF hS rfl (ef_storeW ty67 0 rfl rfl rfl rfl bQ (oc_cons (row_one (hS.own _ (List.mem_of_getElem? (i := 3) rfl)).1) (oc_cons (row_one (hS.own _ (List.mem_of_getElem? (i := 2) rfl)).1) (oc_cons (row_one (hS.own _ (List.mem_of_getElem? (i := 1) rfl)).1) oc_nil))) bQ) ?_
        clear hF hS; rintro _ _ _ a w ⟨rfl, rfl, rfl⟩ hF hS
        refine ⟨⟨iQ, iQ, iQ, iQ, iQ, iQ, iQ, trivial⟩, ?_⟩
        exact goW_done kQ (j7_mk v_1_0 v_1_3 v_1_4 v_1_7 v_1_8 v_1_11 b_1_13 (trivial) (hF.sub (L' := [(1, _), (2, _), (6, _), (7, _)]) ⟨rfl, rfl, rfl, rfl, trivial⟩) hS)
      ·refine stepW_ef _ rfl rfl hF hS rfl (ef_allocA ty67) ?_
       clear hF hS; rintro _ _ _ a w ⟨b_1_13, rfl, rfl, rfl⟩ hF hS
       refine ⟨⟨.inr (hS.k1 (sQ.n.n.n.n.n)), .inr hS.k0, .inr (hS.k1 (sQ.n.n.n.n.n)), .inr hS.k0, iQ, iQ, trivial⟩, ?_⟩
       refine gQ 7 rfl rfl hF hS rfl (ef_append ty22 ty3 2 rfl rfl rfl (src_slV ty22 hy zin0) bQ rfl (by decide)) ?_
       clear hF hS; rintro v_1_7 _ _ a w ⟨rfl, rfl⟩ hF hS
       refine ⟨⟨.inr (hS.k1 (sQ.n.n.n.n.n)), .inr hS.k0, iQ, iQ, iQ, iQ, trivial⟩, ?_⟩
       refine gQ 11 rfl rfl hF hS rfl (ef_append ty23 ty4 1 rfl rfl rfl (src_slV ty23 hz zin0) bQ rfl (by decide)) ?_
       clear hF hS; rintro v_1_11 _ _ a w ⟨rfl, rfl⟩ hF hS
       refine ⟨⟨iQ, iQ, iQ, iQ, iQ, iQ, trivial⟩, ?_⟩
       refine goW_take 12 _ rfl kQ rfl hF (hS.keep sQ (zQ.k.k.k.n)) (q_buildS1 ty67 3 kQ rfl rfl (oc_cons (row_one (hS.own _ (List.mem_of_getElem? (i := 3) rfl)).1) (oc_cons (row_one (hS.own _ (List.mem_of_getElem? (i := 2) rfl)).1) (oc_cons (row_one (hS.own _ (List.mem_of_getElem? (i := 1) rfl)).1) oc_nil))) rfl rfl) ?_
       clear hF; intro a hF
       refine gQ 14 rfl rfl hF hS rfl (ef_storeW ty67 0 rfl rfl rfl rfl bQ (oc_cons (row_one (hS.own _ (List.mem_of_getElem? (i := 3) rfl)).1) (oc_cons (row_one (hS.own _ (List.mem_of_getElem? (i := 2) rfl)).1) (oc_cons (row_one (hS.own _ (List.mem_of_getElem? (i := 1) rfl)).1) oc_nil))) bQ) ?_
       clear hF hS; rintro _ _ _ a w ⟨rfl, rfl, rfl⟩ hF hS
       refine ⟨⟨iQ, iQ, iQ, iQ, iQ, iQ, iQ, trivial⟩, ?_⟩
       exact goW_done kQ (j7_mk v_1_0 v_1_3 v_1_4 v_1_7 v_1_8 v_1_11 b_1_13 (trivial) (hF.sub (L' := [(1, _), (2, _), (6, _), (7, _)]) ⟨rfl, rfl, rfl, rfl, trivial⟩) hS)
     ·refine stepW_ef _ rfl rfl hF hS rfl (ef_allocA ty67) ?_
      clear hF hS; rintro _ _ _ a w ⟨b_1_13, rfl, rfl, rfl⟩ hF hS
      refine ⟨⟨.inr (hS.k1 (sQ.n.n.n.n.n)), .inr hS.k0, .inr (hS.k1 (sQ.n.n.n.n.n)), .inr hS.k0, .inr (hS.k1 (sQ.n.n.n.n.n)), .inr hS.k0, trivial⟩, ?_⟩
      refine gQ 3 rfl rfl hF hS rfl (ef_append ty22 ty3 3 rfl rfl rfl (src_slV ty22 hx zin0) bQ rfl (by decide)) ?_
      clear hF hS; rintro v_1_3 _ _ a w ⟨rfl, rfl⟩ hF hS
      refine ⟨⟨.inr (hS.k1 (sQ.n.n.n.n.n)), .inr hS.k0, .inr (hS.k1 (sQ.n.n.n.n.n)), .inr hS.k0, iQ, iQ, trivial⟩, ?_⟩
      refine gQ 7 rfl rfl hF hS rfl (ef_append ty22 ty3 2 rfl rfl rfl (src_slV ty22 hy zin0) bQ rfl (by decide)) ?_
      clear hF hS; rintro v_1_7 _ _ a w ⟨rfl, rfl⟩ hF hS
      refine ⟨⟨.inr (hS.k1 (sQ.n.n.n.n.n)), .inr hS.k0, iQ, iQ, iQ, iQ, trivial⟩, ?_⟩
      refine gQ 11 rfl rfl hF hS rfl (ef_append ty23 ty4 1 rfl rfl rfl (src_slV ty23 hz zin0) bQ rfl (by decide)) ?_
      clear hF hS; rintro v_1_11 _ _ a w ⟨rfl, rfl⟩ hF hS
      refine ⟨⟨iQ, iQ, iQ, iQ, iQ, iQ, trivial⟩, ?_⟩
      refine goW_take 12 _ rfl kQ rfl hF (hS.keep sQ (zQ.k.k.k.n)) (q_buildS1 ty67 3 kQ rfl rfl (oc_cons (row_one (hS.own _ (List.mem_of_getElem? (i := 3) rfl)).1) (oc_cons (row_one (hS.own _ (List.mem_of_getElem? (i := 2) rfl)).1) (oc_cons (row_one (hS.own _ (List.mem_of_getElem? (i := 1) rfl)).1) oc_nil))) rfl rfl) ?_
      clear hF; intro a hF
      refine gQ 14 rfl rfl hF hS rfl (ef_storeW ty67 0 rfl rfl rfl rfl bQ (oc_cons (row_one (hS.own _ (List.mem_of_getElem? (i := 3) rfl)).1) (oc_cons (row_one (hS.own _ (List.mem_of_getElem? (i := 2) rfl)).1) (oc_cons (row_one (hS.own _ (List.mem_of_getElem? (i := 1) rfl)).1) oc_nil))) bQ) ?_
      clear hF hS; rintro _ _ _ a w ⟨rfl, rfl, rfl⟩ hF hS
      refine ⟨⟨iQ, iQ, iQ, iQ, iQ, iQ, iQ, trivial⟩, ?_⟩
      exact goW_done kQ (j7_mk v_1_0 v_1_3 v_1_4 v_1_7 v_1_8 v_1_11 b_1_13 (trivial) (hF.sub (L' := [(1, _), (2, _), (6, _), (7, _)]) ⟨rfl, rfl, rfl, rfl, trivial⟩) hS)
    ·refine stepW_ef _ rfl rfl hF hS rfl (ef_allocA ty67) ?_
     clear hF hS; rintro _ _ _ a w ⟨b_1_13, rfl, rfl, rfl⟩ hF hS
     refine ⟨⟨.inr (hS.k1 (sQ.n.n.n.n)), .inr hS.k0, .inr (hS.k1 (sQ.n.n.n.n)), .inr hS.k0, .inr (hS.k1 (sQ.n.n.n.n)), .inr hS.k0, trivial⟩, ?_⟩
     refine goW_fork [3, 8] kQ rfl ⟨?_, ?_, trivial⟩
     ·refine stepW_ef _ rfl rfl hF hS rfl (ef_append ty22 ty3 2 rfl rfl rfl (src_slV ty22 hx zin0) bQ rfl (by decide)) ?_
      clear hF hS; rintro v_1_3 _ _ a w ⟨rfl, rfl⟩ hF hS
      refine ⟨⟨.inr (hS.k1 (sQ.n.n.n.n)), .inr hS.k0, .inr (hS.k1 (sQ.n.n.n.n)), .inr hS.k0, iQ, iQ, trivial⟩, ?_⟩
      refine goW_fork [7, 8] kQ rfl ⟨?_, ?_, trivial⟩
      ·refine stepW_ef _ rfl rfl hF hS rfl (ef_append ty22 ty3 1 rfl rfl rfl (src_slV ty22 hy zin0) bQ rfl (by decide)) ?_
       clear hF hS; rintro v_1_7 _ _ a w ⟨rfl, rfl⟩ hF hS
       refine ⟨⟨.inr (hS.k1 (sQ.n.n.n.n)), .inr hS.k0, iQ, iQ, iQ, iQ, trivial⟩, ?_⟩
       refine gQ 8 rfl rfl hF hS rfl (ef_bslice0 ty23 ty4) ?_
       clear hF hS; rintro v_1_8 _ _ a w ⟨rfl, rfl⟩ hF hS
       refine ⟨⟨.inr (hS.k1 (sQ.n.n.n.n.n)), .inr hS.k0, iQ, iQ, iQ, iQ, trivial⟩, ?_⟩
       refine gQ 11 rfl rfl hF hS rfl (ef_append ty23 ty4 0 rfl rfl rfl (src_slV ty23 hz zin0) bQ rfl (by decide)) ?_
       clear hF hS; rintro v_1_11 _ _ a w ⟨rfl, rfl⟩ hF hS
       refine ⟨⟨iQ, iQ, iQ, iQ, iQ, iQ, trivial⟩, ?_⟩
       refine goW_take 12 _ rfl kQ rfl hF (hS.keep sQ (zQ.k.k.n.k)) (q_buildS1 ty67 3 kQ rfl rfl (oc_cons (row_one (hS.own _ (List.mem_of_getElem? (i := 3) rfl)).1) (oc_cons (row_one (hS.own _ (List.mem_of_getElem? (i := 2) rfl)).1) (oc_cons (row_one (hS.own _ (List.mem_of_getElem? (i := 0) rfl)).1) oc_nil))) rfl rfl) ?_
       clear hF; intro a hF
       refine gQ 14 rfl rfl hF hS rfl (ef_storeW ty67 1 rfl rfl rfl rfl bQ (oc_cons (row_one (hS.own _ (List.mem_of_getElem? (i := 3) rfl)).1) (oc_cons (row_one (hS.own _ (List.mem_of_getElem? (i := 2) rfl)).1) (oc_cons (row_one (hS.own _ (List.mem_of_getElem? (i := 0) rfl)).1) oc_nil))) bQ) ?_
       clear hF hS; rintro _ _ _ a w ⟨rfl, rfl, rfl⟩ hF hS
       refine ⟨⟨iQ, iQ, iQ, iQ, iQ, iQ, iQ, trivial⟩, ?_⟩
       exact goW_done kQ (j7_mk v_1_0 v_1_3 v_1_4 v_1_7 v_1_8 v_1_11 b_1_13 (trivial) (hF.sub (L' := [(1, _), (2, _), (6, _), (7, _)]) ⟨rfl, rfl, rfl, rfl, trivial⟩) (hS.perm (.swap _ _ _)))
      ·refine stepW_ef _ rfl rfl hF hS rfl (ef_bslice0 ty23 ty4) ?_
       clear hF hS; rintro v_1_8 _ _ a w ⟨rfl, rfl⟩ hF hS
       refine ⟨⟨.inr (hS.k1 (sQ.n.n.n.n.n)), .inr hS.k0, .inr (hS.k1 (sQ.n.n.n.n.n)), .inr hS.k0, iQ, iQ, trivial⟩, ?_⟩
       refine gQ 7 rfl rfl hF hS rfl (ef_append ty22 ty3 2 rfl rfl rfl (src_slV ty22 hy zin0) bQ rfl (by decide)) ?_
       clear hF hS; rintro v_1_7 _ _ a w ⟨rfl, rfl⟩ hF hS
       refine ⟨⟨.inr (hS.k1 (sQ.n.n.n.n.n)), .inr hS.k0, iQ, iQ, iQ, iQ, trivial⟩, ?_⟩
       refine gQ 11 rfl rfl hF hS rfl (ef_append ty23 ty4 0 rfl rfl rfl (src_slV ty23 hz zin0) bQ rfl (by decide)) ?_
       clear hF hS; rintro v_1_11 _ _ a w ⟨rfl, rfl⟩ hF hS
       refine ⟨⟨iQ, iQ, iQ, iQ, iQ, iQ, trivial⟩, ?_⟩
       refine goW_take 12 _ rfl kQ rfl hF (hS.keep sQ (zQ.k.k.n.k)) (q_buildS1 ty67 3 kQ rfl rfl (oc_cons (row_one (hS.own _ (List.mem_of_getElem? (i := 3) rfl)).1) (oc_cons (row_one (hS.own _ (List.mem_of_getElem? (i := 2) rfl)).1) (oc_cons (row_one (hS.own _ (List.mem_of_getElem? (i := 0) rfl)).1) oc_nil))) rfl rfl) ?_
       clear hF; intro a hF
       refine gQ 14 rfl rfl hF hS rfl (ef_storeW ty67 1 rfl rfl rfl rfl bQ (oc_cons (row_one (hS.own _ (List.mem_of_getElem? (i := 3) rfl)).1) (oc_cons (row_one (hS.own _ (List.mem_of_getElem? (i := 2) rfl)).1) (oc_cons (row_one (hS.own _ (List.mem_of_getElem? (i := 0) rfl)).1) oc_nil))) bQ) ?_
       clear hF hS; rintro _ _ _ a w ⟨rfl, rfl, rfl⟩ hF hS
       refine ⟨⟨iQ, iQ, iQ, iQ, iQ, iQ, iQ, trivial⟩, ?_⟩
       exact goW_done kQ (j7_mk v_1_0 v_1_3 v_1_4 v_1_7 v_1_8 v_1_11 b_1_13 (trivial) (hF.sub (L' := [(1, _), (2, _), (6, _), (7, _)]) ⟨rfl, rfl, rfl, rfl, trivial⟩) (hS.perm (.swap _ _ _)))
     ·refine stepW_ef _ rfl rfl hF hS rfl (ef_bslice0 ty23 ty4) ?_
      clear hF hS; rintro v_1_8 _ _ a w ⟨rfl, rfl⟩ hF hS
      refine ⟨⟨.inr (hS.k1 (sQ.n.n.n.n.n)), .inr hS.k0, .inr (hS.k1 (sQ.n.n.n.n.n)), .inr hS.k0, .inr (hS.k1 (sQ.n.n.n.n.n)), .inr hS.k0, trivial⟩, ?_⟩
      refine gQ 3 rfl rfl hF hS rfl (ef_append ty22 ty3 3 rfl rfl rfl (src_slV ty22 hx zin0) bQ rfl (by decide)) ?_
      clear hF hS; rintro v_1_3 _ _ a w ⟨rfl, rfl⟩ hF hS
      refine ⟨⟨.inr (hS.k1 (sQ.n.n.n.n.n)), .inr hS.k0, .inr (hS.k1 (sQ.n.n.n.n.n)), .inr hS.k0, iQ, iQ, trivial⟩, ?_⟩
      refine gQ 7 rfl rfl hF hS rfl (ef_append ty22 ty3 2 rfl rfl rfl (src_slV ty22 hy zin0) bQ rfl (by decide)) ?_
      clear hF hS; rintro v_1_7 _ _ a w ⟨rfl, rfl⟩ hF hS
      refine ⟨⟨.inr (hS.k1 (sQ.n.n.n.n.n)), .inr hS.k0, iQ, iQ, iQ, iQ, trivial⟩, ?_⟩
      refine gQ 11 rfl rfl hF hS rfl (ef_append ty23 ty4 0 rfl rfl rfl (src_slV ty23 hz zin0) bQ rfl (by decide)) ?_
      clear hF hS; rintro v_1_11 _ _ a w ⟨rfl, rfl⟩ hF hS
      refine ⟨⟨iQ, iQ, iQ, iQ, iQ, iQ, trivial⟩, ?_⟩
      refine goW_take 12 _ rfl kQ rfl hF (hS.keep sQ (zQ.k.k.n.k)) (q_buildS1 ty67 3 kQ rfl rfl (oc_cons (row_one (hS.own _ (List.mem_of_getElem? (i := 3) rfl)).1) (oc_cons (row_one (hS.own _ (List.mem_of_getElem? (i := 2) rfl)).1) (oc_cons (row_one (hS.own _ (List.mem_of_getElem? (i := 0) rfl)).1) oc_nil))) rfl rfl) ?_
      clear hF; intro a hF
      refine gQ 14 rfl rfl hF hS rfl (ef_storeW ty67 1 rfl rfl rfl rfl bQ (oc_cons (row_one (hS.own _ (List.mem_of_getElem? (i := 3) rfl)).1) (oc_cons (row_one (hS.own _ (List.mem_of_getElem? (i := 2) rfl)).1) (oc_cons (row_one (hS.own _ (List.mem_of_getElem? (i := 0) rfl)).1) oc_nil))) bQ) ?_
      clear hF hS; rintro _ _ _ a w ⟨rfl, rfl, rfl⟩ hF hS
      refine ⟨⟨iQ, iQ, iQ, iQ, iQ, iQ, iQ, trivial⟩, ?_⟩
      exact goW_done kQ (j7_mk v_1_0 v_1_3 v_1_4 v_1_7 v_1_8 v_1_11 b_1_13 (trivial) (hF.sub (L' := [(1, _), (2, _), (6, _), (7, _)]) ⟨rfl, rfl, rfl, rfl, trivial⟩) (hS.perm (.swap _ _ _)))
   ·refine stepW_ef _ rfl rfl hF hS rfl (ef_bslice0 ty23 ty4) ?_
    clear hF hS; rintro v_1_8 _ _ a w ⟨rfl, rfl⟩ hF hS
    refine ⟨⟨.inr (hS.k1 (sQ.n.n.n)), .inr hS.k0, .inr (hS.k1 (sQ.n.n.n)), .inr hS.k0, .inr (hS.k1 (sQ.n.n.n)), .inr hS.k0, trivial⟩, ?_⟩
    refine goW_fork [3, 4, 13] kQ rfl ⟨?_, ?_, ?_, trivial⟩
    ·refine stepW_ef _ rfl rfl hF hS rfl (ef_append ty22 ty3 1 rfl rfl rfl (src_slV ty22 hx zin0) bQ rfl (by decide)) ?_
     clear hF hS; rintro v_1_3 _ _ a w ⟨rfl, rfl⟩ hF hS
     refine ⟨⟨.inr (hS.k1 (sQ.n.n.n)), .inr hS.k0, .inr (hS.k1 (sQ.n.n.n)), .inr hS.k0, iQ, iQ, trivial⟩, ?_⟩
     refine goW_fork [4, 13] kQ rfl ⟨?_, ?_, trivial⟩
     ·refine stepW_ef _ rfl rfl hF hS rfl (ef_bslice0 ty22 ty3) ?_
      clear hF hS; rintro v_1_4 _ _ a w ⟨rfl, rfl⟩ hF hS
      refine ⟨⟨.inr (hS.k1 (sQ.n.n.n.n)), .inr hS.k0, .inr (hS.k1 (sQ.n.n.n.n)), .inr hS.k0, iQ, iQ, trivial⟩, ?_⟩
      refine goW_fork [7, 13] kQ rfl ⟨?_, ?_, trivial⟩
      ·refine stepW_ef _ rfl rfl hF hS rfl (ef_append ty22 ty3 0 rfl rfl rfl (src_slV ty22 hy zin0) bQ rfl (by decide)) ?_
       clear hF hS; rintro v_1_7 _ _ a w ⟨rfl, rfl⟩ hF hS
       refine ⟨⟨.inr (hS.k1 (sQ.n.n.n.n)), .inr hS.k0, iQ, iQ, iQ, iQ, trivial⟩, ?_⟩
       refine goW_fork [11, 13] kQ rfl ⟨?_, ?_, trivial⟩
       ·refine stepW_ef _ rfl rfl hF hS rfl (ef_append ty23 ty4 1 rfl rfl rfl (src_slV ty23 hz zin0) bQ rfl (by decide)) ?_
        clear hF hS; rintro v_1_11 _ _ a w ⟨rfl, rfl⟩ hF hS
        refine ⟨⟨iQ, iQ, iQ, iQ, iQ, iQ, trivial⟩, ?_⟩
        refine goW_take 12 _ rfl kQ rfl hF (hS.keep sQ (zQ.k.k.k)) (q_buildS1 ty67 3 kQ rfl rfl (oc_cons (row_one (hS.own _ (List.mem_of_getElem? (i := 2) rfl)).1) (oc_cons (row_one (hS.own _ (List.mem_of_getElem? (i := 0) rfl)).1) (oc_cons (row_one (hS.own _ (List.mem_of_getElem? (i := 1) rfl)).1) oc_nil))) rfl rfl) ?_
        clear hF; intro a hF
        refine gQ 13 rfl rfl hF hS rfl (ef_allocA ty67) ?_
        clear hF hS; rintro _ _ _ a w ⟨b_1_13, rfl, rfl, rfl⟩ hF hS
        refine ⟨⟨.inr (hS.k1 (zQ.k.k.k.n)), iQ, iQ, iQ, iQ, iQ, iQ, trivial⟩, ?_⟩
        refine gQ 14 rfl rfl hF hS rfl (ef_storeW ty67 0 rfl rfl rfl rfl bQ (oc_cons (row_one (hS.own _ (List.mem_of_getElem? (i := 3) rfl)).1) (oc_cons (row_one (hS.own _ (List.mem_of_getElem? (i := 1) rfl)).1) (oc_cons (row_one (hS.own _ (List.mem_of_getElem? (i := 2) rfl)).1) oc_nil))) bQ) ?_
        clear hF hS; rintro _ _ _ a w ⟨rfl, rfl, rfl⟩ hF hS
        refine ⟨⟨iQ, iQ, iQ, iQ, iQ, iQ, iQ, trivial⟩, ?_⟩
        exact goW_done kQ (j7_mk v_1_0 v_1_3 v_1_4 v_1_7 v_1_8 v_1_11 b_1_13 (trivial) (hF.sub (L' := [(1, _), (2, _), (6, _), (7, _)]) ⟨rfl, rfl, rfl, rfl, trivial⟩) (hS.perm (.cons _ (.swap _ _ _))))
       ·refine stepW_ef _ rfl rfl hF hS rfl (ef_allocA ty67) ?_
        clear hF hS; rintro _ _ _ a w ⟨b_1_13, rfl, rfl, rfl⟩ hF hS
        refine ⟨⟨.inr (hS.k1 (sQ.n.n.n.n.n)), .inr hS.k0, iQ, iQ, iQ, iQ, trivial⟩, ?_⟩
        refine gQ 11 rfl rfl hF hS rfl (ef_append ty23 ty4 2 rfl rfl rfl (src_slV ty23 hz zin0) bQ rfl (by decide)) ?_
        clear hF hS; rintro v_1_11 _ _ a w ⟨rfl, rfl⟩ hF hS
        refine ⟨⟨iQ, iQ, iQ, iQ, iQ, iQ, trivial⟩, ?_⟩
        refine goW_take 12 _ rfl kQ rfl hF (hS.keep sQ (zQ.k.k.k.n)) (q_buildS1 ty67 3 kQ rfl rfl (oc_cons (row_one (hS.own _ (List.mem_of_getElem? (i := 3) rfl)).1) (oc_cons (row_one (hS.own _ (List.mem_of_getElem? (i := 1) rfl)).1) (oc_cons (row_one (hS.own _ (List.mem_of_getElem? (i := 2) rfl)).1) oc_nil))) rfl rfl) ?_
        clear hF; intro a hF
        refine gQ 14 rfl rfl hF hS rfl (ef_storeW ty67 0 rfl rfl rfl rfl bQ (oc_cons (row_one (hS.own _ (List.mem_of_getElem? (i := 3) rfl)).1) (oc_cons (row_one (hS.own _ (List.mem_of_getElem? (i := 1) rfl)).1) (oc_cons (row_one (hS.own _ (List.mem_of_getElem? (i := 2) rfl)).1) oc_nil))) bQ) ?_
        clear hF hS; rintro _ _ _ a w ⟨rfl, rfl, rfl⟩ hF hS
        refine ⟨⟨iQ, iQ, iQ, iQ, iQ, iQ, iQ, trivial⟩, ?_⟩
        exact goW_done kQ (j7_mk v_1_0 v_1_3 v_1_4 v_1_7 v_1_8 v_1_11 b_1_13 (trivial) (hF.sub (L' := [(1, _), (2, _), (6, _), (7, _)]) ⟨rfl, rfl, rfl, rfl, trivial⟩) (hS.perm (.cons _ (.swap _ _ _))))
      ·refine stepW_ef _ rfl rfl hF hS rfl (ef_allocA ty67) ?_
       clear hF hS; rintro _ _ _ a w ⟨b_1_13, rfl, rfl, rfl⟩ hF hS
       refine ⟨⟨.inr (hS.k1 (sQ.n.n.n.n.n)), .inr hS.k0, .inr (hS.k1 (sQ.n.n.n.n.n)), .inr hS.k0, iQ, iQ, trivial⟩, ?_⟩
       refine gQ 7 rfl rfl hF hS rfl (ef_append ty22 ty3 1 rfl rfl rfl (src_slV ty22 hy zin0) bQ rfl (by decide)) ?_
       clear hF hS; rintro v_1_7 _ _ a w ⟨rfl, rfl⟩ hF hS
       refine ⟨⟨.inr (hS.k1 (sQ.n.n.n.n.n)), .inr hS.k0, iQ, iQ, iQ, iQ, trivial⟩, ?_⟩
       refine gQ 11 rfl rfl hF hS rfl (ef_append ty23 ty4 2 rfl rfl rfl (src_slV ty23 hz zin0) bQ rfl (by decide)) ?_
       clear hF hS; rintro v_1_11 _ _ a w ⟨rfl, rfl⟩ hF hS
       refine ⟨⟨iQ, iQ, iQ, iQ, iQ, iQ, trivial⟩, ?_⟩
       refine goW_take 12 _ rfl kQ rfl hF (hS.keep sQ (zQ.k.k.k.n)) (q_buildS1 ty67 3 kQ rfl rfl (oc_cons (row_one (hS.own _ (List.mem_of_getElem? (i := 3) rfl)).1) (oc_cons (row_one (hS.own _ (List.mem_of_getElem? (i := 1) rfl)).1) (oc_cons (row_one (hS.own _ (List.mem_of_getElem? (i := 2) rfl)).1) oc_nil))) rfl rfl) ?_
       clear hF; intro a hF
       refine gQ 14 rfl rfl hF hS rfl (ef_storeW ty67 0 rfl rfl rfl rfl bQ (oc_cons (row_one (hS.own _ (List.mem_of_getElem? (i := 3) rfl)).1) (oc_cons (row_one (hS.own _ (List.mem_of_getElem? (i := 1) rfl)).1) (oc_cons (row_one (hS.own _ (List.mem_of_getElem? (i := 2) rfl)).1) oc_nil))) bQ) ?_
       clear hF hS; rintro _ _ _ a w ⟨rfl, rfl, rfl⟩ hF hS
       refine ⟨⟨iQ, iQ, iQ, iQ, iQ, iQ, iQ, trivial⟩, ?_⟩
       exact goW_done kQ (j7_mk v_1_0 v_1_3 v_1_4 v_1_7 v_1_8 v_1_11 b_1_13 (trivial) (hF.sub (L' := [(1, _), (2, _), (6, _), (7, _)]) ⟨rfl, rfl, rfl, rfl, trivial⟩) (hS.perm (.cons _ (.swap _ _ _))))
     ·refine stepW_ef _ rfl rfl hF hS rfl (ef_allocA ty67) ?_
      clear hF hS; rintro _ _ _ a w ⟨b_1_13, rfl, rfl, rfl⟩ hF hS
      refine ⟨⟨.inr (hS.k1 (sQ.n.n.n.n)), .inr hS.k0, .inr (hS.k1 (sQ.n.n.n.n)), .inr hS.k0, iQ, iQ, trivial⟩, ?_⟩
      refine gQ 4 rfl rfl hF hS rfl (ef_bslice0 ty22 ty3) ?_
      clear hF hS; rintro v_1_4 _ _ a w ⟨rfl, rfl⟩ hF hS
      refine ⟨⟨.inr (hS.k1 (sQ.n.n.n.n.n)), .inr hS.k0, .inr (hS.k1 (sQ.n.n.n.n.n)), .inr hS.k0, iQ, iQ, trivial⟩, ?_⟩
      refine gQ 7 rfl rfl hF hS rfl (ef_append ty22 ty3 0 rfl rfl rfl (src_slV ty22 hy zin0) bQ rfl (by decide)) ?_
      clear hF hS; rintro v_1_7 _ _ a w ⟨rfl, rfl⟩ hF hS
      refine ⟨⟨.inr (hS.k1 (sQ.n.n.n.n.n)), .inr hS.k0, iQ, iQ, iQ, iQ, trivial⟩, ?_⟩
      refine gQ 11 rfl rfl hF hS rfl (ef_append ty23 ty4 2 rfl rfl rfl (src_slV ty23 hz zin0) bQ rfl (by decide)) ?_
      clear hF hS; rintro v_1_11 _ _ a w ⟨rfl, rfl⟩ hF hS
      refine ⟨⟨iQ, iQ, iQ, iQ, iQ, iQ, trivial⟩, ?_⟩
      refine goW_take 12 _ rfl kQ rfl hF (hS.keep sQ (zQ.k.k.n.k)) (q_buildS1 ty67 3 kQ rfl rfl (oc_cons (row_one (hS.own _ (List.mem_of_getElem? (i := 3) rfl)).1) (oc_cons (row_one (hS.own _ (List.mem_of_getElem? (i := 0) rfl)).1) (oc_cons (row_one (hS.own _ (List.mem_of_getElem? (i := 2) rfl)).1) oc_nil))) rfl rfl) ?_
      clear hF; intro a hF
      refine gQ 14 rfl rfl hF hS rfl (ef_storeW ty67 1 rfl rfl rfl rfl bQ (oc_cons (row_one (hS.own _ (List.mem_of_getElem? (i := 3) rfl)).1) (oc_cons (row_one (hS.own _ (List.mem_of_getElem? (i := 0) rfl)).1) (oc_cons (row_one (hS.own _ (List.mem_of_getElem? (i := 2) rfl)).1) oc_nil))) bQ) ?_
      clear hF hS; rintro _ _ _ a w ⟨rfl, rfl, rfl⟩ hF hS
      refine ⟨⟨iQ, iQ, iQ, iQ, iQ, iQ, iQ, trivial⟩, ?_⟩
      exact goW_done kQ (j7_mk v_1_0 v_1_3 v_1_4 v_1_7 v_1_8 v_1_11 b_1_13 (trivial) (hF.sub (L' := [(1, _), (2, _), (6, _), (7, _)]) ⟨rfl, rfl, rfl, rfl, trivial⟩) ((hS.perm (.swap _ _ _)).perm (.cons _ (.swap _ _ _))))
    ·refine stepW_ef _ rfl rfl hF hS rfl (ef_bslice0 ty22 ty3) ?_
     clear hF hS; rintro v_1_4 _ _ a w ⟨rfl, rfl⟩ hF hS
     refine ⟨⟨.inr (hS.k1 (sQ.n.n.n.n)), .inr hS.k0, .inr (hS.k1 (sQ.n.n.n.n)), .inr hS.k0, .inr (hS.k1 (sQ.n.n.n.n)), .inr hS.k0, trivial⟩, ?_⟩
     refine goW_fork [3, 13] kQ rfl ⟨?_, ?_, trivial⟩
     ·refine stepW_ef _ rfl rfl hF hS rfl (ef_append ty22 ty3 2 rfl rfl rfl (src_slV ty22 hx zin0) bQ rfl (by decide)) ?_
      clear hF hS; rintro v_1_3 _ _ a w ⟨rfl, rfl⟩ hF hS
      refine ⟨⟨.inr (hS.k1 (sQ.n.n.n.n)), .inr hS.k0, .inr (hS.k1 (sQ.n.n.n.n)), .inr hS.k0, iQ, iQ, trivial⟩, ?_⟩
      refine goW_fork [7, 13] kQ rfl ⟨?_, ?_, trivial⟩
      ·refine stepW_ef _ rfl rfl hF hS rfl (ef_append ty22 ty3 0 rfl rfl rfl (src_slV ty22 hy zin0) bQ rfl (by decide)) ?_
       clear hF hS; rintro v_1_7 _ _ a w ⟨rfl, rfl⟩ hF hS
       refine ⟨⟨.inr (hS.k1 (sQ.n.n.n.n)), .inr hS.k0, iQ, iQ, iQ, iQ, trivial⟩, ?_⟩
       refine goW_fork [11, 13] kQ rfl ⟨?_, ?_, trivial⟩
       ·refine stepW_ef _ rfl rfl hF hS rfl (ef_append ty23 ty4 1 rfl rfl rfl (src_slV ty23 hz zin0) bQ rfl (by decide)) ?_
        clear hF hS; rintro v_1_11 _ _ a w ⟨rfl, rfl⟩ hF hS
        refine ⟨⟨iQ, iQ, iQ, iQ, iQ, iQ, trivial⟩, ?_⟩
        refine goW_take 12 _ rfl kQ rfl hF (hS.keep sQ (zQ.k.k.k)) (q_buildS1 ty67 3 kQ rfl rfl (oc_cons (row_one (hS.own _ (List.mem_of_getElem? (i := 2) rfl)).1) (oc_cons (row_one (hS.own _ (List.mem_of_getElem? (i := 0) rfl)).1) (oc_cons (row_one (hS.own _ (List.mem_of_getElem? (i := 1) rfl)).1) oc_nil))) rfl rfl) ?_
        clear hF; intro a hF
        refine gQ 13 rfl rfl hF hS rfl (ef_allocA ty67) ?_
        clear hF hS; rintro _ _ _ a w ⟨b_1_13, rfl, rfl, rfl⟩ hF hS
        refine ⟨⟨.inr (hS.k1 (zQ.k.k.k.n)), iQ, iQ, iQ, iQ, iQ, iQ, trivial⟩, ?_⟩
        refine gQ 14 rfl rfl hF hS rfl (ef_storeW ty67 0 rfl rfl rfl rfl bQ (oc_cons (row_one (hS.own _ (List.mem_of_getElem? (i := 3) rfl)).1) (oc_cons (row_one (hS.own _ (List.mem_of_getElem? (i := 1) rfl)).1) (oc_cons (row_one (hS.own _ (List.mem_of_getElem? (i := 2) rfl)).1) oc_nil))) bQ) ?_
        clear hF hS; rintro _ _ _ a w ⟨rfl, rfl, rfl⟩ hF hS
        refine ⟨⟨iQ, iQ, iQ, iQ, iQ, iQ, iQ, trivial⟩, ?_⟩
        exact goW_done kQ (j7_mk v_1_0 v_1_3 v_1_4 v_1_7 v_1_8 v_1_11 b_1_13 (trivial) (hF.sub (L' := [(1, _), (2, _), (6, _), (7, _)]) ⟨rfl, rfl, rfl, rfl, trivial⟩) (hS.perm (.cons _ (.swap _ _ _))))
       ·refine stepW_ef _ rfl rfl hF hS rfl (ef_allocA ty67) ?_
        clear hF hS; rintro _ _ _ a w ⟨b_1_13, rfl, rfl, rfl⟩ hF hS
        refine ⟨⟨.inr (hS.k1 (sQ.n.n.n.n.n)), .inr hS.k0, iQ, iQ, iQ, iQ, trivial⟩, ?_⟩
        refine gQ 11 rfl rfl hF hS rfl (ef_append ty23 ty4 2 rfl rfl rfl (src_slV ty23 hz zin0) bQ rfl (by decide)) ?_
        clear hF hS; rintro v_1_11 _ _ a w ⟨rfl, rfl⟩ hF hS
        refine ⟨⟨iQ, iQ, iQ, iQ, iQ, iQ, trivial⟩, ?_⟩
        refine goW_take 12 _ rfl kQ rfl hF (hS.keep sQ (zQ.k.k.k.n)) (q_buildS1 ty67 3 kQ rfl rfl (oc_cons (row_one (hS.own _ (List.mem_of_getElem? (i := 3) rfl)).1) (oc_cons (row_one (hS.own _ (List.mem_of_getElem? (i := 1) rfl)).1) (oc_cons (row_one (hS.own _ (List.mem_of_getElem? (i := 2) rfl)).1) oc_nil))) rfl rfl) ?_
        clear hF; intro a hF
        refine gQ 14 rfl rfl hF hS rfl (ef_storeW ty67 0 rfl rfl rfl rfl bQ (oc_cons (row_one (hS.own _ (List.mem_of_getElem? (i := 3) rfl)).1) (oc_cons (row_one (hS.own _ (List.mem_of_getElem? (i := 1) rfl)).1) (oc_cons (row_one (hS.own _ (List.mem_of_getElem? (i := 2) rfl)).1) oc_nil))) bQ) ?_
        clear hF hS; rintro _ _ _ a w ⟨rfl, rfl, rfl⟩ hF hS
        refine ⟨⟨iQ, iQ, iQ, iQ, iQ, iQ, iQ, trivial⟩, ?_⟩
        exact goW_done kQ (j7_mk v_1_0 v_1_3 v_1_4 v_1_7 v_1_8 v_1_11 b_1_13 (trivial) (hF.sub (L' := [(1, _), (2, _), (6, _), (7, _)]) ⟨rfl, rfl, rfl, rfl, trivial⟩) (hS.perm (.cons _ (.swap _ _ _))))
      ·refine stepW_ef _ rfl rfl hF hS rfl (ef_allocA ty67) ?_
       clear hF hS; rintro _ _ _ a w ⟨b_1_13, rfl, rfl, rfl⟩ hF hS
       refine ⟨⟨.inr (hS.k1 (sQ.n.n.n.n.n)), .inr hS.k0, .inr (hS.k1 (sQ.n.n.n.n.n)), .inr hS.k0, iQ, iQ, trivial⟩, ?_⟩
       refine gQ 7 rfl rfl hF hS rfl (ef_append ty22 ty3 1 rfl rfl rfl (src_slV ty22 hy zin0) bQ rfl (by decide)) ?_
       clear hF hS; rintro v_1_7 _ _ a w ⟨rfl, rfl⟩ hF hS
       refine ⟨⟨.inr (hS.k1 (sQ.n.n.n.n.n)), .inr hS.k0, iQ, iQ, iQ, iQ, trivial⟩, ?_⟩
       refine gQ 11 rfl rfl hF hS rfl (ef_append ty23 ty4 2 rfl rfl rfl (src_slV ty23 hz zin0) bQ rfl (by decide)) ?_
       clear hF hS; rintro v_1_11 _ _ a w ⟨rfl, rfl⟩ hF hS
       refine ⟨⟨iQ, iQ, iQ, iQ, iQ, iQ, trivial⟩, ?_⟩
       refine goW_take 12 _ rfl kQ rfl hF (hS.keep sQ (zQ.k.k.k.n)) (q_buildS1 ty67 3 kQ rfl rfl (oc_cons (row_one (hS.own _ (List.mem_of_getElem? (i := 3) rfl)).1) (oc_cons (row_one (hS.own _ (List.mem_of_getElem? (i := 1) rfl)).1) (oc_cons (row_one (hS.own _ (List.mem_of_getElem? (i := 2) rfl)).1) oc_nil))) rfl rfl) ?_
       clear hF; intro a hF
       refine gQ 14 rfl rfl hF hS rfl (ef_storeW ty67 0 rfl rfl rfl rfl bQ (oc_cons (row_one (hS.own _ (List.mem_of_getElem? (i := 3) rfl)).1) (oc_cons (row_one (hS.own _ (List.mem_of_getElem? (i := 1) rfl)).1) (oc_cons (row_one (hS.own _ (List.mem_of_getElem? (i := 2) rfl)).1) oc_nil))) bQ) ?_
       clear hF hS; rintro _ _ _ a w ⟨rfl, rfl, rfl⟩ hF hS
       refine ⟨⟨iQ, iQ, iQ, iQ, iQ, iQ, iQ, trivial⟩, ?_⟩
       exact goW_done kQ (j7_mk v_1_0 v_1_3 v_1_4 v_1_7 v_1_8 v_1_11 b_1_13 (trivial) (hF.sub (L' := [(1, _), (2, _), (6, _), (7, _)]) ⟨rfl, rfl, rfl, rfl, trivial⟩) (hS.perm (.cons _ (.swap _ _ _))))
     ·refine stepW_ef _ rfl rfl hF hS rfl (ef_allocA ty67) ?_
      clear hF hS; rintro _ _ _ a w ⟨b_1_13, rfl, rfl, rfl⟩ hF hS
      refine ⟨⟨.inr (hS.k1 (sQ.n.n.n.n.n)), .inr hS.k0, .inr (hS.k1 (sQ.n.n.n.n.n)), .inr hS.k0, .inr (hS.k1 (sQ.n.n.n.n.n)), .inr hS.k0, trivial⟩, ?_⟩
      refine gQ 3 rfl rfl hF hS rfl (ef_append ty22 ty3 3 rfl rfl rfl (src_slV ty22 hx zin0) bQ rfl (by decide)) ?_
      clear hF hS; rintro v_1_3 _ _ a w ⟨rfl, rfl⟩ hF hS
      refine ⟨⟨.inr (hS.k1 (sQ.n.n.n.n.n)), .inr hS.k0, .inr (hS.k1 (sQ.n.n.n.n.n)), .inr hS.k0, iQ, iQ, trivial⟩, ?_⟩
      refine gQ 7 rfl rfl hF hS rfl (ef_append ty22 ty3 1 rfl rfl rfl (src_slV ty22 hy zin0) bQ rfl (by decide)) ?_
      clear hF hS; rintro v_1_7 _ _ a w ⟨rfl, rfl⟩ hF hS
      refine ⟨⟨.inr (hS.k1 (sQ.n.n.n.n.n)), .inr hS.k0, iQ, iQ, iQ, iQ, trivial⟩, ?_⟩
      refine gQ 11 rfl rfl hF hS rfl (ef_append ty23 ty4 2 rfl rfl rfl (src_slV ty23 hz zin0) bQ rfl (by decide)) ?_
      clear hF hS; rintro v_1_11 _ _ a w ⟨rfl, rfl⟩ hF hS
      refine ⟨⟨iQ, iQ, iQ, iQ, iQ, iQ, trivial⟩, ?_⟩
      refine goW_take 12 _ rfl kQ rfl hF (hS.keep sQ (zQ.k.k.k.n)) (q_buildS1 ty67 3 kQ rfl rfl (oc_cons (row_one (hS.own _ (List.mem_of_getElem? (i := 3) rfl)).1) (oc_cons (row_one (hS.own _ (List.mem_of_getElem? (i := 1) rfl)).1) (oc_cons (row_one (hS.own _ (List.mem_of_getElem? (i := 2) rfl)).1) oc_nil))) rfl rfl) ?_
      clear hF; intro a hF
      refine gQ 14 rfl rfl hF hS rfl (ef_storeW ty67 0 rfl rfl rfl rfl bQ (oc_cons (row_one (hS.own _ (List.mem_of_getElem? (i := 3) rfl)).1) (oc_cons (row_one (hS.own _ (List.mem_of_getElem? (i := 1) rfl)).1) (oc_cons (row_one (hS.own _ (List.mem_of_getElem? (i := 2) rfl)).1) oc_nil))) bQ) ?_
      clear hF hS; rintro _ _ _ a w ⟨rfl, rfl, rfl⟩ hF hS
      refine ⟨⟨iQ, iQ, iQ, iQ, iQ, iQ, iQ, trivial⟩, ?_⟩
      exact goW_done kQ (j7_mk v_1_0 v_1_3 v_1_4 v_1_7 v_1_8 v_1_11 b_1_13 (trivial) (hF.sub (L' := [(1, _), (2, _), (6, _), (7, _)]) ⟨rfl, rfl, rfl, rfl, trivial⟩) (hS.perm (.cons _ (.swap _ _ _))))
    ·refine stepW_ef _ rfl rfl hF hS rfl (ef_allocA ty67) ?_
     clear hF hS; rintro _ _ _ a w ⟨b_1_13, rfl, rfl, rfl⟩ hF hS
     refine ⟨⟨.inr (hS.k1 (sQ.n.n.n.n)), .inr hS.k0, .inr (hS.k1 (sQ.n.n.n.n)), .inr hS.k0, .inr (hS.k1 (sQ.n.n.n.n)), .inr hS.k0, trivial⟩, ?_⟩
     refine goW_fork [3, 4] kQ rfl ⟨?_, ?_, trivial⟩
     ·refine stepW_ef _ rfl rfl hF hS rfl (ef_append ty22 ty3 2 rfl rfl rfl (src_slV ty22 hx zin0) bQ rfl (by decide)) ?_
      clear hF hS; rintro v_1_3 _ _ a w ⟨rfl, rfl⟩ hF hS
      refine ⟨⟨.inr (hS.k1 (sQ.n.n.n.n)), .inr hS.k0, .inr (hS.k1 (sQ.n.n.n.n)), .inr hS.k0, iQ, iQ, trivial⟩, ?_⟩
      refine gQ 4 rfl rfl hF hS rfl (ef_bslice0 ty22 ty3) ?_
      clear hF hS; rintro v_1_4 _ _ a w ⟨rfl, rfl⟩ hF hS
      refine ⟨⟨.inr (hS.k1 (sQ.n.n.n.n.n)), .inr hS.k0, .inr (hS.k1 (sQ.n.n.n.n.n)), .inr hS.k0, iQ, iQ, trivial⟩, ?_⟩
      refine gQ 7 rfl rfl hF hS rfl (ef_append ty22 ty3 0 rfl rfl rfl (src_slV ty22 hy zin0) bQ rfl (by decide)) ?_
      clear hF hS; rintro v_1_7 _ _ a w ⟨rfl, rfl⟩ hF hS
      refine ⟨⟨.inr (hS.k1 (sQ.n.n.n.n.n)), .inr hS.k0, iQ, iQ, iQ, iQ, trivial⟩, ?_⟩
      refine gQ 11 rfl rfl hF hS rfl (ef_append ty23 ty4 2 rfl rfl rfl (src_slV ty23 hz zin0) bQ rfl (by decide)) ?_
      clear hF hS; rintro v_1_11 _ _ a w ⟨rfl, rfl⟩ hF hS
      refine ⟨⟨iQ, iQ, iQ, iQ, iQ, iQ, trivial⟩, ?_⟩
      refine goW_take 12 _ rfl kQ rfl hF (hS.keep sQ (zQ.k.k.n.k)) (q_buildS1 ty67 3 kQ rfl rfl (oc_cons (row_one (hS.own _ (List.mem_of_getElem? (i := 3) rfl)).1) (oc_cons (row_one (hS.own _ (List.mem_of_getElem? (i := 0) rfl)).1) (oc_cons (row_one (hS.own _ (List.mem_of_getElem? (i := 2) rfl)).1) oc_nil))) rfl rfl) ?_
      clear hF; intro a hF
      refine gQ 14 rfl rfl hF hS rfl (ef_storeW ty67 1 rfl rfl rfl rfl bQ (oc_cons (row_one (hS.own _ (List.mem_of_getElem? (i := 3) rfl)).1) (oc_cons (row_one (hS.own _ (List.mem_of_getElem? (i := 0) rfl)).1) (oc_cons (row_one (hS.own _ (List.mem_of_getElem? (i := 2) rfl)).1) oc_nil))) bQ) ?_
      clear hF hS; rintro _ _ _ a w ⟨rfl, rfl, rfl⟩ hF hS
      refine ⟨⟨iQ, iQ, iQ, iQ, iQ, iQ, iQ, trivial⟩, ?_⟩
      exact goW_done kQ (j7_mk v_1_0 v_1_3 v_1_4 v_1_7 v_1_8 v_1_11 b_1_13 (trivial) (hF.sub (L' := [(1, _), (2, _), (6, _), (7, _)]) ⟨rfl, rfl, rfl, rfl, trivial⟩) ((hS.perm (.swap _ _ _)).perm (.cons _ (.swap _ _ _))))
     ·refine stepW_ef _ rfl rfl hF hS rfl (ef_bslice0 ty22 ty3) ?_
      clear hF hS; rintro v_1_4 _ _ a w ⟨rfl, rfl⟩ hF hS
      refine ⟨⟨.inr (hS.k1 (sQ.n.n.n.n.n)), .inr hS.k0, .inr (hS.k1 (sQ.n.n.n.n.n)), .inr hS.k0, .inr (hS.k1 (sQ.n.n.n.n.n)), .inr hS.k0, trivial⟩, ?_⟩
      refine gQ 3 rfl rfl hF hS rfl (ef_append ty22 ty3 3 rfl rfl rfl (src_slV ty22 hx zin0) bQ rfl (by decide)) ?_
      clear hF hS; rintro v_1_3 _ _ a w ⟨rfl, rfl⟩ hF hS
      refine ⟨⟨.inr (hS.k1 (sQ.n.n.n.n.n)), .inr hS.k0, .inr (hS.k1 (sQ.n.n.n.n.n)), .inr hS.k0, iQ, iQ, trivial⟩, ?_⟩
      refine gQ 7 rfl rfl hF hS rfl (ef_append ty22 ty3 0 rfl rfl rfl (src_slV ty22 hy zin0) bQ rfl (by decide)) ?_
      clear hF hS; rintro v_1_7 _ _ a w ⟨rfl, rfl⟩ hF hS
      refine ⟨⟨.inr (hS.k1 (sQ.n.n.n.n.n)), .inr hS.k0, iQ, iQ, iQ, iQ, trivial⟩, ?_⟩
      refine gQ 11 rfl rfl hF hS rfl (ef_append ty23 ty4 2 rfl rfl rfl (src_slV ty23 hz zin0) bQ rfl (by decide)) ?_
      clear hF hS; rintro v_1_11 _ _ a w ⟨rfl, rfl⟩ hF hS
      refine ⟨⟨iQ, iQ, iQ, iQ, iQ, iQ, trivial⟩, ?_⟩
      refine goW_take 12 _ rfl kQ rfl hF (hS.keep sQ (zQ.k.k.n.k)) (q_buildS1 ty67 3 kQ rfl rfl (oc_cons (row_one (hS.own _ (List.mem_of_getElem? (i := 3) rfl)).1) (oc_cons (row_one (hS.own _ (List.mem_of_getElem? (i := 0) rfl)).1) (oc_cons (row_one (hS.own _ (List.mem_of_getElem? (i := 2) rfl)).1) oc_nil))) rfl rfl) ?_
      clear hF; intro a hF
      refine gQ 14 rfl rfl hF hS rfl (ef_storeW ty67 1 rfl rfl rfl rfl bQ (oc_cons (row_one (hS.own _ (List.mem_of_getElem? (i := 3) rfl)).1) (oc_cons (row_one (hS.own _ (List.mem_of_getElem? (i := 0) rfl)).1) (oc_cons (row_one (hS.own _ (List.mem_of_getElem? (i := 2) rfl)).1) oc_nil))) bQ) ?_
      clear hF hS; rintro _ _ _ a w ⟨rfl, rfl, rfl⟩ hF hS
      refine ⟨⟨iQ, iQ, iQ, iQ, iQ, iQ, iQ, trivial⟩, ?_⟩
      exact goW_done kQ (j7_mk v_1_0 v_1_3 v_1_4 v_1_7 v_1_8 v_1_11 b_1_13 (trivial) (hF.sub (L' := [(1, _), (2, _), (6, _), (7, _)]) ⟨rfl, rfl, rfl, rfl, trivial⟩) ((hS.perm (.swap _ _ _)).perm (.cons _ (.swap _ _ _))))
   ·refine stepW_ef _ rfl rfl hF hS rfl (ef_allocA ty67) ?_
    clear hF hS; rintro _ _ _ a w ⟨b_1_13, rfl, rfl, rfl⟩ hF hS
    refine ⟨⟨.inr (hS.k1 (sQ.n.n.n)), .inr hS.k0, .inr (hS.k1 (sQ.n.n.n)), .inr hS.k0, .inr (hS.k1 (sQ.n.n.n)), .inr hS.k0, trivial⟩, ?_⟩
    refine goW_fork [3, 4, 8] kQ rfl ⟨?_, ?_, ?_, trivial⟩
    ·refine stepW_ef _ rfl rfl hF hS rfl (ef_append ty22 ty3 1 rfl rfl rfl (src_slV ty22 hx zin0) bQ rfl (by decide)) ?_
     clear hF hS; rintro v_1_3 _ _ a w ⟨rfl, rfl⟩ hF hS
     refine ⟨⟨.inr (hS.k1 (sQ.n.n.n)), .inr hS.k0, .inr (hS.k1 (sQ.n.n.n)), .inr hS.k0, iQ, iQ, trivial⟩, ?_⟩
     refine goW_fork [4, 8] kQ rfl ⟨?_, ?_, trivial⟩
     ·refine stepW_ef _ rfl rfl hF hS rfl (ef_bslice0 ty22 ty3) ?_
      clear hF hS; rintro v_1_4 _ _ a w ⟨rfl, rfl⟩ hF hS
      refine ⟨⟨.inr (hS.k1 (sQ.n.n.n.n)), .inr hS.k0, .inr (hS.k1 (sQ.n.n.n.n)), .inr hS.k0, iQ, iQ, trivial⟩, ?_⟩
      refine goW_fork [7, 8] kQ rfl ⟨?_, ?_, trivial⟩
      ·refine stepW_ef _ rfl rfl hF hS rfl (ef_append ty22 ty3 0 rfl rfl rfl (src_slV ty22 hy zin0) bQ rfl (by decide)) ?_
       clear hF hS; rintro v_1_7 _ _ a w ⟨rfl, rfl⟩ hF hS
       refine ⟨⟨.inr (hS.k1 (sQ.n.n.n.n)), .inr hS.k0, iQ, iQ, iQ, iQ, trivial⟩, ?_⟩
       refine gQ 8 rfl rfl hF hS rfl (ef_bslice0 ty23 ty4) ?_
       clear hF hS; rintro v_1_8 _ _ a w ⟨rfl, rfl⟩ hF hS
       refine ⟨⟨.inr (hS.k1 (sQ.n.n.n.n.n)), .inr hS.k0, iQ, iQ, iQ, iQ, trivial⟩, ?_⟩
       refine gQ 11 rfl rfl hF hS rfl (ef_append ty23 ty4 0 rfl rfl rfl (src_slV ty23 hz zin0) bQ rfl (by decide)) ?_
       clear hF hS; rintro v_1_11 _ _ a w ⟨rfl, rfl⟩ hF hS
       refine ⟨⟨iQ, iQ, iQ, iQ, iQ, iQ, trivial⟩, ?_⟩
       refine goW_take 12 _ rfl kQ rfl hF (hS.keep sQ (zQ.k.n.k.k)) (q_buildS1 ty67 3 kQ rfl rfl (oc_cons (row_one (hS.own _ (List.mem_of_getElem? (i := 3) rfl)).1) (oc_cons (row_one (hS.own _ (List.mem_of_getElem? (i := 1) rfl)).1) (oc_cons (row_one (hS.own _ (List.mem_of_getElem? (i := 0) rfl)).1) oc_nil))) rfl rfl) ?_
       clear hF; intro a hF
       refine gQ 14 rfl rfl hF hS rfl (ef_storeW ty67 2 rfl rfl rfl rfl bQ (oc_cons (row_one (hS.own _ (List.mem_of_getElem? (i := 3) rfl)).1) (oc_cons (row_one (hS.own _ (List.mem_of_getElem? (i := 1) rfl)).1) (oc_cons (row_one (hS.own _ (List.mem_of_getElem? (i := 0) rfl)).1) oc_nil))) bQ) ?_
       clear hF hS; rintro _ _ _ a w ⟨rfl, rfl, rfl⟩ hF hS
       refine ⟨⟨iQ, iQ, iQ, iQ, iQ, iQ, iQ, trivial⟩, ?_⟩
       exact goW_done kQ (j7_mk v_1_0 v_1_3 v_1_4 v_1_7 v_1_8 v_1_11 b_1_13 (trivial) (hF.sub (L' := [(1, _), (2, _), (6, _), (7, _)]) ⟨rfl, rfl, rfl, rfl, trivial⟩) ((hS.perm (.cons _ (.swap _ _ _))).perm (.swap _ _ _)))
      ·refine stepW_ef _ rfl rfl hF hS rfl (ef_bslice0 ty23 ty4) ?_
       clear hF hS; rintro v_1_8 _ _ a w ⟨rfl, rfl⟩ hF hS
       refine ⟨⟨.inr (hS.k1 (sQ.n.n.n.n.n)), .inr hS.k0, .inr (hS.k1 (sQ.n.n.n.n.n)), .inr hS.k0, iQ, iQ, trivial⟩, ?_⟩
       refine gQ 7 rfl rfl hF hS rfl (ef_append ty22 ty3 1 rfl rfl rfl (src_slV ty22 hy zin0) bQ rfl (by decide)) ?_
       clear hF hS; rintro v_1_7 _ _ a w ⟨rfl, rfl⟩ hF hS
       refine ⟨⟨.inr (hS.k1 (sQ.n.n.n.n.n)), .inr hS.k0, iQ, iQ, iQ, iQ, trivial⟩, ?_⟩
       refine gQ 11 rfl rfl hF hS rfl (ef_append ty23 ty4 0 rfl rfl rfl (src_slV ty23 hz zin0) bQ rfl (by decide)) ?_
       clear hF hS; rintro v_1_11 _ _ a w ⟨rfl, rfl⟩ hF hS
       refine ⟨⟨iQ, iQ, iQ, iQ, iQ, iQ, trivial⟩, ?_⟩
       refine goW_take 12 _ rfl kQ rfl hF (hS.keep sQ (zQ.k.n.k.k)) (q_buildS1 ty67 3 kQ rfl rfl (oc_cons (row_one (hS.own _ (List.mem_of_getElem? (i := 3) rfl)).1) (oc_cons (row_one (hS.own _ (List.mem_of_getElem? (i := 1) rfl)).1) (oc_cons (row_one (hS.own _ (List.mem_of_getElem? (i := 0) rfl)).1) oc_nil))) rfl rfl) ?_
       clear hF; intro a hF
       refine gQ 14 rfl rfl hF hS rfl (ef_storeW ty67 2 rfl rfl rfl rfl bQ (oc_cons (row_one (hS.own _ (List.mem_of_getElem? (i := 3) rfl)).1) (oc_cons (row_one (hS.own _ (List.mem_of_getElem? (i := 1) rfl)).1) (oc_cons (row_one (hS.own _ (List.mem_of_getElem? (i := 0) rfl)).1) oc_nil))) bQ) ?_
       clear hF hS; rintro _ _ _ a w ⟨rfl, rfl, rfl⟩ hF hS
       refine ⟨⟨iQ, iQ, iQ, iQ, iQ, iQ, iQ, trivial⟩, ?_⟩
       exact goW_done kQ (j7_mk v_1_0 v_1_3 v_1_4 v_1_7 v_1_8 v_1_11 b_1_13 (trivial) (hF.sub (L' := [(1, _), (2, _), (6, _), (7, _)]) ⟨rfl, rfl, rfl, rfl, trivial⟩) ((hS.perm (.cons _ (.swap _ _ _))).perm (.swap _ _ _)))
     ·refine stepW_ef _ rfl rfl hF hS rfl (ef_bslice0 ty23 ty4) ?_
      clear hF hS; rintro v_1_8 _ _ a w ⟨rfl, rfl⟩ hF hS
      refine ⟨⟨.inr (hS.k1 (sQ.n.n.n.n)), .inr hS.k0, .inr (hS.k1 (sQ.n.n.n.n)), .inr hS.k0, iQ, iQ, trivial⟩, ?_⟩
      refine gQ 4 rfl rfl hF hS rfl (ef_bslice0 ty22 ty3) ?_
      clear hF hS; rintro v_1_4 _ _ a w ⟨rfl, rfl⟩ hF hS
      refine ⟨⟨.inr (hS.k1 (sQ.n.n.n.n.n)), .inr hS.k0, .inr (hS.k1 (sQ.n.n.n.n.n)), .inr hS.k0, iQ, iQ, trivial⟩, ?_⟩
      refine gQ 7 rfl rfl hF hS rfl (ef_append ty22 ty3 0 rfl rfl rfl (src_slV ty22 hy zin0) bQ rfl (by decide)) ?_
      clear hF hS; rintro v_1_7 _ _ a w ⟨rfl, rfl⟩ hF hS
      refine ⟨⟨.inr (hS.k1 (sQ.n.n.n.n.n)), .inr hS.k0, iQ, iQ, iQ, iQ, trivial⟩, ?_⟩
      refine gQ 11 rfl rfl hF hS rfl (ef_append ty23 ty4 1 rfl rfl rfl (src_slV ty23 hz zin0) bQ rfl (by decide)) ?_
      clear hF hS; rintro v_1_11 _ _ a w ⟨rfl, rfl⟩ hF hS
      refine ⟨⟨iQ, iQ, iQ, iQ, iQ, iQ, trivial⟩, ?_⟩
      refine goW_take 12 _ rfl kQ rfl hF (hS.keep sQ (zQ.k.n.k.k)) (q_buildS1 ty67 3 kQ rfl rfl (oc_cons (row_one (hS.own _ (List.mem_of_getElem? (i := 3) rfl)).1) (oc_cons (row_one (hS.own _ (List.mem_of_getElem? (i := 0) rfl)).1) (oc_cons (row_one (hS.own _ (List.mem_of_getElem? (i := 1) rfl)).1) oc_nil))) rfl rfl) ?_
      clear hF; intro a hF
      refine gQ 14 rfl rfl hF hS rfl (ef_storeW ty67 2 rfl rfl rfl rfl bQ (oc_cons (row_one (hS.own _ (List.mem_of_getElem? (i := 3) rfl)).1) (oc_cons (row_one (hS.own _ (List.mem_of_getElem? (i := 0) rfl)).1) (oc_cons (row_one (hS.own _ (List.mem_of_getElem? (i := 1) rfl)).1) oc_nil))) bQ) ?_
      clear hF hS; rintro _ _ _ a w ⟨rfl, rfl, rfl⟩ hF hS
      refine ⟨⟨iQ, iQ, iQ, iQ, iQ, iQ, iQ, trivial⟩, ?_⟩
      exact goW_done kQ (j7_mk v_1_0 v_1_3 v_1_4 v_1_7 v_1_8 v_1_11 b_1_13 (trivial) (hF.sub (L' := [(1, _), (2, _), (6, _), (7, _)]) ⟨rfl, rfl, rfl, rfl, trivial⟩) (((hS.perm (.cons _ (.swap _ _ _))).perm (.swap _ _ _)).perm (.cons _ (.swap _ _ _))))
    ·refine stepW_ef _ rfl rfl hF hS rfl (ef_bslice0 ty22 ty3) ?_
     clear hF hS; rintro v_1_4 _ _ a w ⟨rfl, rfl⟩ hF hS
     refine ⟨⟨.inr (hS.k1 (sQ.n.n.n.n)), .inr hS.k0, .inr (hS.k1 (sQ.n.n.n.n)), .inr hS.k0, .inr (hS.k1 (sQ.n.n.n.n)), .inr hS.k0, trivial⟩, ?_⟩
     refine goW_fork [3, 8] kQ rfl ⟨?_, ?_, trivial⟩
     ·refine stepW_ef _ rfl rfl hF hS rfl (ef_append ty22 ty3 2 rfl rfl rfl (src_slV ty22 hx zin0) bQ rfl (by decide)) ?_
      clear hF hS; rintro v_1_3 _ _ a w ⟨rfl, rfl⟩ hF hS
      refine ⟨⟨.inr (hS.k1 (sQ.n.n.n.n)), .inr hS.k0, .inr (hS.k1 (sQ.n.n.n.n)), .inr hS.k0, iQ, iQ, trivial⟩, ?_⟩
      refine goW_fork [7, 8] kQ rfl ⟨?_, ?_, trivial⟩
      ·refine stepW_ef _ rfl rfl hF hS rfl (ef_append ty22 ty3 0 rfl rfl rfl (src_slV ty22 hy zin0) bQ rfl (by decide)) ?_
       clear hF hS; rintro v_1_7 _ _ a w ⟨rfl, rfl⟩ hF hS
       refine ⟨⟨.inr (hS.k1 (sQ.n.n.n.n)), .inr hS.k0, iQ, iQ, iQ, iQ, trivial⟩, ?_⟩
       refine gQ 8 rfl rfl hF hS rfl (ef_bslice0 ty23 ty4) ?_
       clear hF hS; rintro v_1_8 _ _ a w ⟨rfl, rfl⟩ hF hS
       refine ⟨⟨.inr (hS.k1 (sQ.n.n.n.n.n)), .inr hS.k0, iQ, iQ, iQ, iQ, trivial⟩, ?_⟩
       refine gQ 11 rfl rfl hF hS rfl (ef_append ty23 ty4 0 rfl rfl rfl (src_slV ty23 hz zin0) bQ rfl (by decide)) ?_
       clear hF hS; rintro v_1_11 _ _ a w ⟨rfl, rfl⟩ hF hS
       refine ⟨⟨iQ, iQ, iQ, iQ, iQ, iQ, trivial⟩, ?_⟩
       refine goW_take 12 _ rfl kQ rfl hF (hS.keep sQ (zQ.k.n.k.k)) (q_buildS1 ty67 3 kQ rfl rfl (oc_cons (row_one (hS.own _ (List.mem_of_getElem? (i := 3) rfl)).1) (oc_cons (row_one (hS.own _ (List.mem_of_getElem? (i := 1) rfl)).1) (oc_cons (row_one (hS.own _ (List.mem_of_getElem? (i := 0) rfl)).1) oc_nil))) rfl rfl) ?_
       clear hF; intro a hF
       refine gQ 14 rfl rfl hF hS rfl (ef_storeW ty67 2 rfl rfl rfl rfl bQ (oc_cons (row_one (hS.own _ (List.mem_of_getElem? (i := 3) rfl)).1) (oc_cons (row_one (hS.own _ (List.mem_of_getElem? (i := 1) rfl)).1) (oc_cons (row_one (hS.own _ (List.mem_of_getElem? (i := 0) rfl)).1) oc_nil))) bQ) ?_
       clear hF hS; rintro _ _ _ a w ⟨rfl, rfl, rfl⟩ hF hS
       refine ⟨⟨iQ, iQ, iQ, iQ, iQ, iQ, iQ, trivial⟩, ?_⟩
       exact goW_done kQ (j7_mk v_1_0 v_1_3 v_1_4 v_1_7 v_1_8 v_1_11 b_1_13 (trivial) (hF.sub (L' := [(1, _), (2, _), (6, _), (7, _)]) ⟨rfl, rfl, rfl, rfl, trivial⟩) ((hS.perm (.cons _ (.swap _ _ _))).perm (.swap _ _ _)))
      ·refine stepW_ef _ rfl rfl hF hS rfl (ef_bslice0 ty23 ty4) ?_
       clear hF hS; rintro v_1_8 _ _ a w ⟨rfl, rfl⟩ hF hS
       refine ⟨⟨.inr (hS.k1 (sQ.n.n.n.n.n)), .inr hS.k0, .inr (hS.k1 (sQ.n.n.n.n.n)), .inr hS.k0, iQ, iQ, trivial⟩, ?_⟩
       refine gQ 7 rfl rfl hF hS rfl (ef_append ty22 ty3 1 rfl rfl rfl (src_slV ty22 hy zin0) bQ rfl (by decide)) ?_
       clear hF hS; rintro v_1_7 _ _ a w ⟨rfl, rfl⟩ hF hS
       refine ⟨⟨.inr (hS.k1 (sQ.n.n.n.n.n)), .inr hS.k0, iQ, iQ, iQ, iQ, trivial⟩, ?_⟩
       refine gQ 11 rfl rfl hF hS rfl (ef_append ty23 ty4 0 rfl rfl rfl (src_slV ty23 hz zin0) bQ rfl (by decide)) ?_
       clear hF hS; rintro v_1_11 _ _ a w ⟨rfl, rfl⟩ hF hS
       refine ⟨⟨iQ, iQ, iQ, iQ, iQ, iQ, trivial⟩, ?_⟩
       refine goW_take 12 _ rfl kQ rfl hF (hS.keep sQ (zQ.k.n.k.k)) (q_buildS1 ty67 3 kQ rfl rfl (oc_cons (row_one (hS.own _ (List.mem_of_getElem? (i := 3) rfl)).1) (oc_cons (row_one (hS.own _ (List.mem_of_getElem? (i := 1) rfl)).1) (oc_cons (row_one (hS.own _ (List.mem_of_getElem? (i := 0) rfl)).1) oc_nil))) rfl rfl) ?_
       clear hF; intro a hF
       refine gQ 14 rfl rfl hF hS rfl (ef_storeW ty67 2 rfl rfl rfl rfl bQ (oc_cons (row_one (hS.own _ (List.mem_of_getElem? (i := 3) rfl)).1) (oc_cons (row_one (hS.own _ (List.mem_of_getElem? (i := 1) rfl)).1) (oc_cons (row_one (hS.own _ (List.mem_of_getElem? (i := 0) rfl)).1) oc_nil))) bQ) ?_
       clear hF hS; rintro _ _ _ a w ⟨rfl, rfl, rfl⟩ hF hS
       refine ⟨⟨iQ, iQ, iQ, iQ, iQ, iQ, iQ, trivial⟩, ?_⟩
       exact goW_done kQ (j7_mk v_1_0 v_1_3 v_1_4 v_1_7 v_1_8 v_1_11 b_1_13 (trivial) (hF.sub (L' := [(1, _), (2, _), (6, _), (7, _)]) ⟨rfl, rfl, rfl, rfl, trivial⟩) ((hS.perm (.cons _ (.swap _ _ _))).perm (.swap _ _ _)))
     ·refine stepW_ef _ rfl rfl hF hS rfl (ef_bslice0 ty23 ty4) ?_
      clear hF hS; rintro v_1_8 _ _ a w ⟨rfl, rfl⟩ hF hS
      refine ⟨⟨.inr (hS.k1 (sQ.n.n.n.n.n)), .inr hS.k0, .inr (hS.k1 (sQ.n.n.n.n.n)), .inr hS.k0, .inr (hS.k1 (sQ.n.n.n.n.n)), .inr hS.k0, trivial⟩, ?_⟩
      refine gQ 3 rfl rfl hF hS rfl (ef_append ty22 ty3 3 rfl rfl rfl (src_slV ty22 hx zin0) bQ rfl (by decide)) ?_
      clear hF hS; rintro v_1_3 _ _ a w ⟨rfl, rfl⟩ hF hS
      refine ⟨⟨.inr (hS.k1 (sQ.n.n.n.n.n)), .inr hS.k0, .inr (hS.k1 (sQ.n.n.n.n.n)), .inr hS.k0, iQ, iQ, trivial⟩, ?_⟩
      refine gQ 7 rfl rfl hF hS rfl (ef_append ty22 ty3 1 rfl rfl rfl (src_slV ty22 hy zin0) bQ rfl (by decide)) ?_
      clear hF hS; rintro v_1_7 _ _ a w ⟨rfl, rfl⟩ hF hS
      refine ⟨⟨.inr (hS.k1 (sQ.n.n.n.n.n)), .inr hS.k0, iQ, iQ, iQ, iQ, trivial⟩, ?_⟩
      refine gQ 11 rfl rfl hF hS rfl (ef_append ty23 ty4 0 rfl rfl rfl (src_slV ty23 hz zin0) bQ rfl (by decide)) ?_
      clear hF hS; rintro v_1_11 _ _ a w ⟨rfl, rfl⟩ hF hS
      refine ⟨⟨iQ, iQ, iQ, iQ, iQ, iQ, trivial⟩, ?_⟩
      refine goW_take 12 _ rfl kQ rfl hF (hS.keep sQ (zQ.k.n.k.k)) (q_buildS1 ty67 3 kQ rfl rfl (oc_cons (row_one (hS.own _ (List.mem_of_getElem? (i := 3) rfl)).1) (oc_cons (row_one (hS.own _ (List.mem_of_getElem? (i := 1) rfl)).1) (oc_cons (row_one (hS.own _ (List.mem_of_getElem? (i := 0) rfl)).1) oc_nil))) rfl rfl) ?_
      clear hF; intro a hF
      refine gQ 14 rfl rfl hF hS rfl (ef_storeW ty67 2 rfl rfl rfl rfl bQ (oc_cons (row_one (hS.own _ (List.mem_of_getElem? (i := 3) rfl)).1) (oc_cons (row_one (hS.own _ (List.mem_of_getElem? (i := 1) rfl)).1) (oc_cons (row_one (hS.own _ (List.mem_of_getElem? (i := 0) rfl)).1) oc_nil))) bQ) ?_
      clear hF hS; rintro _ _ _ a w ⟨rfl, rfl, rfl⟩ hF hS
      refine ⟨⟨iQ, iQ, iQ, iQ, iQ, iQ, iQ, trivial⟩, ?_⟩
      exact goW_done kQ (j7_mk v_1_0 v_1_3 v_1_4 v_1_7 v_1_8 v_1_11 b_1_13 (trivial) (hF.sub (L' := [(1, _), (2, _), (6, _), (7, _)]) ⟨rfl, rfl, rfl, rfl, trivial⟩) ((hS.perm (.cons _ (.swap _ _ _))).perm (.swap _ _ _)))
    ·refine stepW_ef _ rfl rfl hF hS rfl (ef_bslice0 ty23 ty4) ?_
     clear hF hS; rintro v_1_8 _ _ a w ⟨rfl, rfl⟩ hF hS
     refine ⟨⟨.inr (hS.k1 (sQ.n.n.n.n)), .inr hS.k0, .inr (hS.k1 (sQ.n.n.n.n)), .inr hS.k0, .inr (hS.k1 (sQ.n.n.n.n)), .inr hS.k0, trivial⟩, ?_⟩
     refine goW_fork [3, 4] kQ rfl ⟨?_, ?_, trivial⟩
     ·refine stepW_ef _ rfl rfl hF hS rfl (ef_append ty22 ty3 2 rfl rfl rfl (src_slV ty22 hx zin0) bQ rfl (by decide)) ?_
      clear hF hS; rintro v_1_3 _ _ a w ⟨rfl, rfl⟩ hF hS
      refine ⟨⟨.inr (hS.k1 (sQ.n.n.n.n)), .inr hS.k0, .inr (hS.k1 (sQ.n.n.n.n)), .inr hS.k0, iQ, iQ, trivial⟩, ?_⟩
      refine gQ 4 rfl rfl hF hS rfl (ef_bslice0 ty22 ty3) ?_
      clear hF hS; rintro v_1_4 _ _ a w ⟨rfl, rfl⟩ hF hS
      refine ⟨⟨.inr (hS.k1 (sQ.n.n.n.n.n)), .inr hS.k0, .inr (hS.k1 (sQ.n.n.n.n.n)), .inr hS.k0, iQ, iQ, trivial⟩, ?_⟩
      refine gQ 7 rfl rfl hF hS rfl (ef_append ty22 ty3 0 rfl rfl rfl (src_slV ty22 hy zin0) bQ rfl (by decide)) ?_
      clear hF hS; rintro v_1_7 _ _ a w ⟨rfl, rfl⟩ hF hS
      refine ⟨⟨.inr (hS.k1 (sQ.n.n.n.n.n)), .inr hS.k0, iQ, iQ, iQ, iQ, trivial⟩, ?_⟩
      refine gQ 11 rfl rfl hF hS rfl (ef_append ty23 ty4 1 rfl rfl rfl (src_slV ty23 hz zin0) bQ rfl (by decide)) ?_
      clear hF hS; rintro v_1_11 _ _ a w ⟨rfl, rfl⟩ hF hS
      refine ⟨⟨iQ, iQ, iQ, iQ, iQ, iQ, trivial⟩, ?_⟩
      refine goW_take 12 _ rfl kQ rfl hF (hS.keep sQ (zQ.k.n.k.k)) (q_buildS1 ty67 3 kQ rfl rfl (oc_cons (row_one (hS.own _ (List.mem_of_getElem? (i := 3) rfl)).1) (oc_cons (row_one (hS.own _ (List.mem_of_getElem? (i := 0) rfl)).1) (oc_cons (row_one (hS.own _ (List.mem_of_getElem? (i := 1) rfl)).1) oc_nil))) rfl rfl) ?_
      clear hF; intro a hF
      refine gQ 14 rfl rfl hF hS rfl (ef_storeW ty67 2 rfl rfl rfl rfl bQ (oc_cons (row_one (hS.own _ (List.mem_of_getElem? (i := 3) rfl)).1) (oc_cons (row_one (hS.own _ (List.mem_of_getElem? (i := 0) rfl)).1) (oc_cons (row_one (hS.own _ (List.mem_of_getElem? (i := 1) rfl)).1) oc_nil))) bQ) ?_
      clear hF hS; rintro _ _ _ a w ⟨rfl, rfl, rfl⟩ hF hS
      refine ⟨⟨iQ, iQ, iQ, iQ, iQ, iQ, iQ, trivial⟩, ?_⟩
      exact goW_done kQ (j7_mk v_1_0 v_1_3 v_1_4 v_1_7 v_1_8 v_1_11 b_1_13 (trivial) (hF.sub (L' := [(1, _), (2, _), (6, _), (7, _)]) ⟨rfl, rfl, rfl, rfl, trivial⟩) (((hS.perm (.cons _ (.swap _ _ _))).perm (.swap _ _ _)).perm (.cons _ (.swap _ _ _))))
     ·refine stepW_ef _ rfl rfl hF hS rfl (ef_bslice0 ty22 ty3) ?_
      clear hF hS; rintro v_1_4 _ _ a w ⟨rfl, rfl⟩ hF hS
      refine ⟨⟨.inr (hS.k1 (sQ.n.n.n.n.n)), .inr hS.k0, .inr (hS.k1 (sQ.n.n.n.n.n)), .inr hS.k0, .inr (hS.k1 (sQ.n.n.n.n.n)), .inr hS.k0, trivial⟩, ?_⟩
      refine gQ 3 rfl rfl hF hS rfl (ef_append ty22 ty3 3 rfl rfl rfl (src_slV ty22 hx zin0) bQ rfl (by decide)) ?_
      clear hF hS; rintro v_1_3 _ _ a w ⟨rfl, rfl⟩ hF hS
      refine ⟨⟨.inr (hS.k1 (sQ.n.n.n.n.n)), .inr hS.k0, .inr (hS.k1 (sQ.n.n.n.n.n)), .inr hS.k0, iQ, iQ, trivial⟩, ?_⟩
      refine gQ 7 rfl rfl hF hS rfl (ef_append ty22 ty3 0 rfl rfl rfl (src_slV ty22 hy zin0) bQ rfl (by decide)) ?_
      clear hF hS; rintro v_1_7 _ _ a w ⟨rfl, rfl⟩ hF hS
      refine ⟨⟨.inr (hS.k1 (sQ.n.n.n.n.n)), .inr hS.k0, iQ, iQ, iQ, iQ, trivial⟩, ?_⟩
      refine gQ 11 rfl rfl hF hS rfl (ef_append ty23 ty4 1 rfl rfl rfl (src_slV ty23 hz zin0) bQ rfl (by decide)) ?_
      clear hF hS; rintro v_1_11 _ _ a w ⟨rfl, rfl⟩ hF hS
      refine ⟨⟨iQ, iQ, iQ, iQ, iQ, iQ, trivial⟩, ?_⟩
      refine goW_take 12 _ rfl kQ rfl hF (hS.keep sQ (zQ.k.n.k.k)) (q_buildS1 ty67 3 kQ rfl rfl (oc_cons (row_one (hS.own _ (List.mem_of_getElem? (i := 3) rfl)).1) (oc_cons (row_one (hS.own _ (List.mem_of_getElem? (i := 0) rfl)).1) (oc_cons (row_one (hS.own _ (List.mem_of_getElem? (i := 1) rfl)).1) oc_nil))) rfl rfl) ?_
      clear hF; intro a hF
      refine gQ 14 rfl rfl hF hS rfl (ef_storeW ty67 2 rfl rfl rfl rfl bQ (oc_cons (row_one (hS.own _ (List.mem_of_getElem? (i := 3) rfl)).1) (oc_cons (row_one (hS.own _ (List.mem_of_getElem? (i := 0) rfl)).1) (oc_cons (row_one (hS.own _ (List.mem_of_getElem? (i := 1) rfl)).1) oc_nil))) bQ) ?_
      clear hF hS; rintro _ _ _ a w ⟨rfl, rfl, rfl⟩ hF hS
      refine ⟨⟨iQ, iQ, iQ, iQ, iQ, iQ, iQ, trivial⟩, ?_⟩
      exact goW_done kQ (j7_mk v_1_0 v_1_3 v_1_4 v_1_7 v_1_8 v_1_11 b_1_13 (trivial) (hF.sub (L' := [(1, _), (2, _), (6, _), (7, _)]) ⟨rfl, rfl, rfl, rfl, trivial⟩) (((hS.perm (.cons _ (.swap _ _ _))).perm (.swap _ _ _)).perm (.cons _ (.swap _ _ _))))
  ·refine stepW_ef _ rfl rfl hF hS rfl (ef_bslice0 ty22 ty3) ?_
   clear hF hS; rintro v_1_4 _ _ a w ⟨rfl, rfl⟩ hF hS
   refine ⟨⟨.inr (hS.k1 (sQ.n.n)), .inr hS.k0, .inr (hS.k1 (sQ.n.n)), .inr hS.k0, .inr (hS.k1 (sQ.n.n)), .inr hS.k0, trivial⟩, ?_⟩
   refine goW_fork [0, 8, 13] kQ rfl ⟨?_, ?_, ?_, trivial⟩
   ·refine stepW_ef _ rfl rfl hF hS rfl (ef_bslice0 ty22 ty3) ?_
    clear hF hS; rintro v_1_0 _ _ a w ⟨rfl, rfl⟩ hF hS
    refine ⟨⟨.inr (hS.k1 (sQ.n.n.n)), .inr hS.k0, .inr (hS.k1 (sQ.n.n.n)), .inr hS.k0, .inr (hS.k1 (sQ.n.n.n)), .inr hS.k0, trivial⟩, ?_⟩
    refine goW_fork [3, 8, 13] kQ rfl ⟨?_, ?_, ?_, trivial⟩
    ·refine stepW_ef _ rfl rfl hF hS rfl (ef_append ty22 ty3 0 rfl rfl rfl (src_slV ty22 hx zin0) bQ rfl (by decide)) ?_
     clear hF hS; rintro v_1_3 _ _ a w ⟨rfl, rfl⟩ hF hS
     refine ⟨⟨.inr (hS.k1 (sQ.n.n.n)), .inr hS.k0, .inr (hS.k1 (sQ.n.n.n)), .inr hS.k0, iQ, iQ, trivial⟩, ?_⟩
     refine goW_fork [7, 8, 13] kQ rfl ⟨?_, ?_, ?_, trivial⟩
     ·refine stepW_ef _ rfl rfl hF hS rfl (ef_append ty22 ty3 1 rfl rfl rfl (src_slV ty22 hy zin0) bQ rfl (by decide)) ?_
      clear hF hS; rintro v_1_7 _ _ a w ⟨rfl, rfl⟩ hF hS
      refine ⟨⟨.inr (hS.k1 (sQ.n.n.n)), .inr hS.k0, iQ, iQ, iQ, iQ, trivial⟩, ?_⟩
      refine goW_fork [8, 13] kQ rfl ⟨?_, ?_, trivial⟩
      ·refine stepW_ef _ rfl rfl hF hS rfl (ef_bslice0 ty23 ty4) ?_
       clear hF hS; rintro v_1_8 _ _ a w ⟨rfl, rfl⟩ hF hS
       refine ⟨⟨.inr (hS.k1 (sQ.n.n.n.n)), .inr hS.k0, iQ, iQ, iQ, iQ, trivial⟩, ?_⟩
       refine goW_fork [11, 13] kQ rfl ⟨?_, ?_, trivial⟩
       ·refine stepW_ef _ rfl rfl hF hS rfl (ef_append ty23 ty4 0 rfl rfl rfl (src_slV ty23 hz zin0) bQ rfl (by decide)) ?_
        clear hF hS; rintro v_1_11 _ _ a w ⟨rfl, rfl⟩ hF hS
        refine ⟨⟨iQ, iQ, iQ, iQ, iQ, iQ, trivial⟩, ?_⟩
        refine goW_take 12 _ rfl kQ rfl hF (hS.keep sQ (zQ.k.k.k)) (q_buildS1 ty67 3 kQ rfl rfl (oc_cons (row_one (hS.own _ (List.mem_of_getElem? (i := 1) rfl)).1) (oc_cons (row_one (hS.own _ (List.mem_of_getElem? (i := 2) rfl)).1) (oc_cons (row_one (hS.own _ (List.mem_of_getElem? (i := 0) rfl)).1) oc_nil))) rfl rfl) ?_
        clear hF; intro a hF
        refine gQ 13 rfl rfl hF hS rfl (ef_allocA ty67) ?_
        clear hF hS; rintro _ _ _ a w ⟨b_1_13, rfl, rfl, rfl⟩ hF hS
        refine ⟨⟨.inr (hS.k1 (zQ.k.k.k.n)), iQ, iQ, iQ, iQ, iQ, iQ, trivial⟩, ?_⟩
        refine gQ 14 rfl rfl hF hS rfl (ef_storeW ty67 0 rfl rfl rfl rfl bQ (oc_cons (row_one (hS.own _ (List.mem_of_getElem? (i := 2) rfl)).1) (oc_cons (row_one (hS.own _ (List.mem_of_getElem? (i := 3) rfl)).1) (oc_cons (row_one (hS.own _ (List.mem_of_getElem? (i := 1) rfl)).1) oc_nil))) bQ) ?_
        clear hF hS; rintro _ _ _ a w ⟨rfl, rfl, rfl⟩ hF hS
        refine ⟨⟨iQ, iQ, iQ, iQ, iQ, iQ, iQ, trivial⟩, ?_⟩
        exact goW_done kQ (j7_mk v_1_0 v_1_3 v_1_4 v_1_7 v_1_8 v_1_11 b_1_13 (trivial) (hF.sub (L' := [(1, _), (2, _), (6, _), (7, _)]) ⟨rfl, rfl, rfl, rfl, trivial⟩) (hS.perm (.cons _ (.cons _ (.swap _ _ _)))))
       ·refine stepW_ef _ rfl rfl hF hS rfl (ef_allocA ty67) ?_
        clear hF hS; rintro _ _ _ a w ⟨b_1_13, rfl, rfl, rfl⟩ hF hS
        refine ⟨⟨.inr (hS.k1 (sQ.n.n.n.n.n)), .inr hS.k0, iQ, iQ, iQ, iQ, trivial⟩, ?_⟩
        refine gQ 11 rfl rfl hF hS rfl (ef_append ty23 ty4 1 rfl rfl rfl (src_slV ty23 hz zin0) bQ rfl (by decide)) ?_
        clear hF hS; rintro v_1_11 _ _ a w ⟨rfl, rfl⟩ hF hS
        refine ⟨⟨iQ, iQ, iQ, iQ, iQ, iQ, trivial⟩, ?_⟩
        refine goW_take 12 _ rfl kQ rfl hF (hS.keep sQ (zQ.k.k.k.n)) (q_buildS1 ty67 3 kQ rfl rfl (oc_cons (row_one (hS.own _ (List.mem_of_getElem? (i := 2) rfl)).1) (oc_cons (row_one (hS.own _ (List.mem_of_getElem? (i := 3) rfl)).1) (oc_cons (row_one (hS.own _ (List.mem_of_getElem? (i := 1) rfl)).1) oc_nil))) rfl rfl) ?_
        clear hF; intro a hF
        refine gQ 14 rfl rfl hF hS rfl (ef_storeW ty67 0 rfl rfl rfl rfl bQ (oc_cons (row_one (hS.own _ (List.mem_of_getElem? (i := 2) rfl)).1) (oc_cons (row_one (hS.own _ (List.mem_of_getElem? (i := 3) rfl)).1) (oc_cons (row_one (hS.own _ (List.mem_of_getElem? (i := 1) rfl)).1) oc_nil))) bQ) ?_
        clear hF hS; rintro _ _ _ a w ⟨rfl, rfl, rfl⟩ hF hS
        refine ⟨⟨iQ, iQ, iQ, iQ, iQ, iQ, iQ, trivial⟩, ?_⟩
        exact goW_done kQ (j7_mk v_1_0 v_1_3 v_1_4 v_1_7 v_1_8 v_1_11 b_1_13 (trivial) (hF.sub (L' := [(1, _), (2, _), (6, _), (7, _)]) ⟨rfl, rfl, rfl, rfl, trivial⟩) (hS.perm (.cons _ (.cons _ (.swap _ _ _)))))
      ·refine stepW_ef _ rfl rfl hF hS rfl (ef_allocA ty67) ?_
       clear hF hS; rintro _ _ _ a w ⟨b_1_13, rfl, rfl, rfl⟩ hF hS
       refine ⟨⟨.inr (hS.k1 (sQ.n.n.n.n)), .inr hS.k0, iQ, iQ, iQ, iQ, trivial⟩, ?_⟩
       refine gQ 8 rfl rfl hF hS rfl (ef_bslice0 ty23 ty4) ?_
       clear hF hS; rintro v_1_8 _ _ a w ⟨rfl, rfl⟩ hF hS
       refine ⟨⟨.inr (hS.k1 (sQ.n.n.n.n.n)), .inr hS.k0, iQ, iQ, iQ, iQ, trivial⟩, ?_⟩
       refine gQ 11 rfl rfl hF hS rfl (ef_append ty23 ty4 0 rfl rfl rfl (src_slV ty23 hz zin0) bQ rfl (by decide)) ?_
       clear hF hS; rintro v_1_11 _ _ a w ⟨rfl, rfl⟩ hF hS
       refine ⟨⟨iQ, iQ, iQ, iQ, iQ, iQ, trivial⟩, ?_⟩
       refine goW_take 12 _ rfl kQ rfl hF (hS.keep sQ (zQ.k.k.n.k)) (q_buildS1 ty67 3 kQ rfl rfl (oc_cons (row_one (hS.own _ (List.mem_of_getElem? (i := 2) rfl)).1) (oc_cons (row_one (hS.own _ (List.mem_of_getElem? (i := 3) rfl)).1) (oc_cons (row_one (hS.own _ (List.mem_of_getElem? (i := 0) rfl)).1) oc_nil))) rfl rfl) ?_
       clear hF; intro a hF
       refine gQ 14 rfl rfl hF hS rfl (ef_storeW ty67 1 rfl rfl rfl rfl bQ (oc_cons (row_one (hS.own _ (List.mem_of_getElem? (i := 2) rfl)).1) (oc_cons (row_one (hS.own _ (List.mem_of_getElem? (i := 3) rfl)).1) (oc_cons (row_one (hS.own _ (List.mem_of_getElem? (i := 0) rfl)).1) oc_nil))) bQ) ?_
       clear hF hS; rintro _ _ _ a w ⟨rfl, rfl, rfl⟩ hF hS
       refine ⟨⟨iQ, iQ, iQ, iQ, iQ, iQ, iQ, trivial⟩, ?_⟩
       exact goW_done kQ (j7_mk v_1_0 v_1_3 v_1_4 v_1_7 v_1_8 v_1_11 b_1_13 (trivial) (hF.sub (L' := [(1, _), (2, _), (6, _), (7, _)]) ⟨rfl, rfl, rfl, rfl, trivial⟩) ((hS.perm (.swap _ _ _)).perm (.cons _ (.cons _ (.swap _ _ _)))))
     ·refine stepW_ef _ rfl rfl hF hS rfl (ef_bslice0 ty23 ty4) ?_
      clear hF hS; rintro v_1_8 _ _ a w ⟨rfl, rfl⟩ hF hS
      refine ⟨⟨.inr (hS.k1 (sQ.n.n.n.n)), .inr hS.k0, .inr (hS.k1 (sQ.n.n.n.n)), .inr hS.k0, iQ, iQ, trivial⟩, ?_⟩
      refine goW_fork [7, 13] kQ rfl ⟨?_, ?_, trivial⟩
      ·refine stepW_ef _ rfl rfl hF hS rfl (ef_append ty22 ty3 2 rfl rfl rfl (src_slV ty22 hy zin0) bQ rfl (by decide)) ?_
       clear hF hS; rintro v_1_7 _ _ a w ⟨rfl, rfl⟩ hF hS
       refine ⟨⟨.inr (hS.k1 (sQ.n.n.n.n)), .inr hS.k0, iQ, iQ, iQ, iQ, trivial⟩, ?_⟩
       refine goW_fork [11, 13] kQ rfl ⟨?_, ?_, trivial⟩
       ·refine stepW_ef _ rfl rfl hF hS rfl (ef_append ty23 ty4 0 rfl rfl rfl (src_slV ty23 hz zin0) bQ rfl (by decide)) ?_
        clear hF hS; rintro v_1_11 _ _ a w ⟨rfl, rfl⟩ hF hS
        refine ⟨⟨iQ, iQ, iQ, iQ, iQ, iQ, trivial⟩, ?_⟩
        refine goW_take 12 _ rfl kQ rfl hF (hS.keep sQ (zQ.k.k.k)) (q_buildS1 ty67 3 kQ rfl rfl (oc_cons (row_one (hS.own _ (List.mem_of_getElem? (i := 1) rfl)).1) (oc_cons (row_one (hS.own _ (List.mem_of_getElem? (i := 2) rfl)).1) (oc_cons (row_one (hS.own _ (List.mem_of_getElem? (i := 0) rfl)).1) oc_nil))) rfl rfl) ?_
        clear hF; intro a hF
        refine gQ 13 rfl rfl hF hS rfl (ef_allocA ty67) ?_
        clear hF hS; rintro _ _ _ a w ⟨b_1_13, rfl, rfl, rfl⟩ hF hS
        refine ⟨⟨.inr (hS.k1 (zQ.k.k.k.n)), iQ, iQ, iQ, iQ, iQ, iQ, trivial⟩, ?_⟩
        refine gQ 14 rfl rfl hF hS rfl (ef_storeW ty67 0 rfl rfl rfl rfl bQ (oc_cons (row_one (hS.own _ (List.mem_of_getElem? (i := 2) rfl)).1) (oc_cons (row_one (hS.own _ (List.mem_of_getElem? (i := 3) rfl)).1) (oc_cons (row_one (hS.own _ (List.mem_of_getElem? (i := 1) rfl)).1) oc_nil))) bQ) ?_
        clear hF hS; rintro _ _ _ a w ⟨rfl, rfl, rfl⟩ hF hS
        refine ⟨⟨iQ, iQ, iQ, iQ, iQ, iQ, iQ, trivial⟩, ?_⟩
        exact goW_done kQ (j7_mk v_1_0 v_1_3 v_1_4 v_1_7 v_1_8 v_1_11 b_1_13 (trivial) (hF.sub (L' := [(1, _), (2, _), (6, _), (7, _)]) ⟨rfl, rfl, rfl, rfl, trivial⟩) (hS.perm (.cons _ (.cons _ (.swap _ _ _)))))
       ·refine stepW_ef _ rfl rfl hF hS rfl (ef_allocA ty67) ?_
        clear hF hS; rintro _ _ _ a w ⟨b_1_13, rfl, rfl, rfl⟩ hF hS
        refine ⟨⟨.inr (hS.k1 (sQ.n.n.n.n.n)), .inr hS.k0, iQ, iQ, iQ, iQ, trivial⟩, ?_⟩
        refine gQ 11 rfl rfl hF hS rfl (ef_append ty23 ty4 1 rfl rfl rfl (src_slV ty23 hz zin0) bQ rfl (by decide)) ?_
        clear hF hS; rintro v_1_11 _ _ a w ⟨rfl, rfl⟩ hF hS
        refine ⟨⟨iQ, iQ, iQ, iQ, iQ, iQ, trivial⟩, ?_⟩
        refine goW_take 12 _ rfl kQ rfl hF (hS.keep sQ (zQ.k.k.k.n)) (q_buildS1 ty67 3 kQ rfl rfl (oc_cons (row_one (hS.own _ (List.mem_of_getElem? (i := 2) rfl)).1) (oc_cons (row_one (hS.own _ (List.mem_of_getElem? (i := 3) rfl)).1) (oc_cons (row_one (hS.own _ (List.mem_of_getElem? (i := 1) rfl)).1) oc_nil))) rfl rfl) ?_
        clear hF; intro a hF
        refine gQ 14 rfl rfl hF hS rfl (ef_storeW ty67 0 rfl rfl rfl rfl bQ (oc_cons (row_one (hS.own _ (List.mem_of_getElem? (i := 2) rfl)).1) (oc_cons (row_one (hS.own _ (List.mem_of_getElem? (i := 3) rfl)).1) (oc_cons (row_one (hS.own _ (List.mem_of_getElem? (i := 1) rfl)).1) oc_nil))) bQ) ?_
        clear hF hS; rintro _ _ _ a w ⟨rfl, rfl, rfl⟩ hF hS
        refine ⟨⟨iQ, iQ, iQ, iQ, iQ, iQ, iQ, trivial⟩, ?_⟩
        exact goW_done kQ (j7_mk v_1_0 v_1_3 v_1_4 v_1_7 v_1_8 v_1_11 b_1_13 (trivial) (hF.sub (L' := [(1, _), (2, _), (6, _), (7, _)]) ⟨rfl, rfl, rfl, rfl, trivial⟩) (hS.perm (.cons _ (.cons _ (.swap _ _ _)))))
      ·refine stepW_ef _ rfl rfl hF hS rfl (ef_allocA ty67) ?_
       clear hF hS; rintro _ _ _ a w ⟨b_1_13, rfl, rfl, rfl⟩ hF hS
       refine ⟨⟨.inr (hS.k1 (sQ.n.n.n.n.n)), .inr hS.k0, .inr (hS.k1 (sQ.n.n.n.n.n)), .inr hS.k0, iQ, iQ, trivial⟩, ?_⟩
       refine gQ 7 rfl rfl hF hS rfl (ef_append ty22 ty3 3 rfl rfl rfl (src_slV ty22 hy zin0) bQ rfl (by decide)) ?_
       clear hF hS; rintro v_1_7 _ _ a w ⟨rfl, rfl⟩ hF hS
       refine ⟨⟨.inr (hS.k1 (sQ.n.n.n.n.n)), .inr hS.k0, iQ, iQ, iQ, iQ, trivial⟩, ?_⟩
       refine gQ 11 rfl rfl hF hS rfl (ef_append ty23 ty4 1 rfl rfl rfl (src_slV ty23 hz zin0) bQ rfl (by decide)) ?_
       clear hF hS; rintro v_1_11 _ _ a w ⟨rfl, rfl⟩ hF hS
       refine ⟨⟨iQ, iQ, iQ, iQ, iQ, iQ, trivial⟩, ?_⟩
       refine goW_take 12 _ rfl kQ rfl hF (hS.keep sQ (zQ.k.k.k.n)) (q_buildS1 ty67 3 kQ rfl rfl (oc_cons (row_one (hS.own _ (List.mem_of_getElem? (i := 2) rfl)).1) (oc_cons (row_one (hS.own _ (List.mem_of_getElem? (i := 3) rfl)).1) (oc_cons (row_one (hS.own _ (List.mem_of_getElem? (i := 1) rfl)).1) oc_nil))) rfl rfl) ?_
       clear hF; intro a hF
       refine gQ 14 rfl rfl hF hS rfl (ef_storeW ty67 0 rfl rfl rfl rfl bQ (oc_cons (row_one (hS.own _ (List.mem_of_getElem? (i := 2) rfl)).1) (oc_cons (row_one (hS.own _ (List.mem_of_getElem? (i := 3) rfl)).1) (oc_cons (row_one (hS.own _ (List.mem_of_getElem? (i := 1) rfl)).1) oc_nil))) bQ) ?_
       clear hF hS; rintro _ _ _ a w ⟨rfl, rfl, rfl⟩ hF hS
       refine ⟨⟨iQ, iQ, iQ, iQ, iQ, iQ, iQ, trivial⟩, ?_⟩
       exact goW_done kQ (j7_mk v_1_0 v_1_3 v_1_4 v_1_7 v_1_8 v_1_11 b_1_13 (trivial) (hF.sub (L' := [(1, _), (2, _), (6, _), (7, _)]) ⟨rfl, rfl, rfl, rfl, trivial⟩) (hS.perm (.cons _ (.cons _ (.swap _ _ _)))))
     ·refine stepW_ef _ rfl rfl hF hS rfl (ef_allocA ty67) ?_
      clear hF hS; rintro _ _ _ a w ⟨b_1_13, rfl, rfl, rfl⟩ hF hS
      refine ⟨⟨.inr (hS.k1 (sQ.n.n.n.n)), .inr hS.k0, .inr (hS.k1 (sQ.n.n.n.n)), .inr hS.k0, iQ, iQ, trivial⟩, ?_⟩
      refine goW_fork [7, 8] kQ rfl ⟨?_, ?_, trivial⟩
      ·refine stepW_ef _ rfl rfl hF hS rfl (ef_append ty22 ty3 2 rfl rfl rfl (src_slV ty22 hy zin0) bQ rfl (by decide)) ?_
       clear hF hS; rintro v_1_7 _ _ a w ⟨rfl, rfl⟩ hF hS
       refine ⟨⟨.inr (hS.k1 (sQ.n.n.n.n)), .inr hS.k0, iQ, iQ, iQ, iQ, trivial⟩, ?_⟩
       refine gQ 8 rfl rfl hF hS rfl (ef_bslice0 ty23 ty4) ?_
       clear hF hS; rintro v_1_8 _ _ a w ⟨rfl, rfl⟩ hF hS
       refine ⟨⟨.inr (hS.k1 (sQ.n.n.n.n.n)), .inr hS.k0, iQ, iQ, iQ, iQ, trivial⟩, ?_⟩
       refine gQ 11 rfl rfl hF hS rfl (ef_append ty23 ty4 0 rfl rfl rfl (src_slV ty23 hz zin0) bQ rfl (by decide)) ?_
       clear hF hS; rintro v_1_11 _ _ a w ⟨rfl, rfl⟩ hF hS
       refine ⟨⟨iQ, iQ, iQ, iQ, iQ, iQ, trivial⟩, ?_⟩
       refine goW_take 12 _ rfl kQ rfl hF (hS.keep sQ (zQ.k.k.n.k)) (q_buildS1 ty67 3 kQ rfl rfl (oc_cons (row_one (hS.own _ (List.mem_of_getElem? (i := 2) rfl)).1) (oc_cons (row_one (hS.own _ (List.mem_of_getElem? (i := 3) rfl)).1) (oc_cons (row_one (hS.own _ (List.mem_of_getElem? (i := 0) rfl)).1) oc_nil))) rfl rfl) ?_
       clear hF; intro a hF
       refine gQ 14 rfl rfl hF hS rfl (ef_storeW ty67 1 rfl rfl rfl rfl bQ (oc_cons (row_one (hS.own _ (List.mem_of_getElem? (i := 2) rfl)).1) (oc_cons (row_one (hS.own _ (List.mem_of_getElem? (i := 3) rfl)).1) (oc_cons (row_one (hS.own _ (List.mem_of_getElem? (i := 0) rfl)).1) oc_nil))) bQ) ?_
       clear hF hS; rintro _ _ _ a w ⟨rfl, rfl, rfl⟩ hF hS
       refine ⟨⟨iQ, iQ, iQ, iQ, iQ, iQ, iQ, trivial⟩, ?_⟩
       exact goW_done kQ (j7_mk v_1_0 v_1_3 v_1_4 v_1_7 v_1_8 v_1_11 b_1_13 (trivial) (hF.sub (L' := [(1, _), (2, _), (6, _), (7, _)]) ⟨rfl, rfl, rfl, rfl, trivial⟩) ((hS.perm (.swap _ _ _)).perm (.cons _ (.cons _ (.swap _ _ _)))))
      ·refine stepW_ef _ rfl rfl hF hS rfl (ef_bslice0 ty23 ty4) ?_
       clear hF hS; rintro v_1_8 _ _ a w ⟨rfl, rfl⟩ hF hS
       refine ⟨⟨.inr (hS.k1 (sQ.n.n.n.n.n)), .inr hS.k0, .inr (hS.k1 (sQ.n.n.n.n.n)), .inr hS.k0, iQ, iQ, trivial⟩, ?_⟩
       refine gQ 7 rfl rfl hF hS rfl (ef_append ty22 ty3 3 rfl rfl rfl (src_slV ty22 hy zin0) bQ rfl (by decide)) ?_
       clear hF hS; rintro v_1_7 _ _ a w ⟨rfl, rfl⟩ hF hS
       refine ⟨⟨.inr (hS.k1 (sQ.n.n.n.n.n)), .inr hS.k0, iQ, iQ, iQ, iQ, trivial⟩, ?_⟩
       refine gQ 11 rfl rfl hF hS rfl (ef_append ty23 ty4 0 rfl rfl rfl (src_slV ty23 hz zin0) bQ rfl (by decide)) ?_
       clear hF hS; rintro v_1_11 _ _ a w ⟨rfl, rfl⟩ hF hS
       refine ⟨⟨iQ, iQ, iQ, iQ, iQ, iQ, trivial⟩, ?_⟩
       refine goW_take 12 _ rfl kQ rfl hF (hS.keep sQ (zQ.k.k.n.k)) (q_buildS1 ty67 3 kQ rfl rfl (oc_cons (row_one (hS.own _ (List.mem_of_getElem? (i := 2) rfl)).1) (oc_cons (row_one (hS.own _ (List.mem_of_getElem? (i := 3) rfl)).1) (oc_cons (row_one (hS.own _ (List.mem_of_getElem? (i := 0) rfl)).1) oc_nil))) rfl rfl) ?_
       clear hF; intro a hF
       refine gQ 14 rfl rfl hF hS rfl (ef_storeW ty67 1 rfl rfl rfl rfl bQ (oc_cons (row_one (hS.own _ (List.mem_of_getElem? (i := 2) rfl)).1) (oc_cons (row_one (hS.own _ (List.mem_of_getElem? (i := 3) rfl)).1) (oc_cons (row_one (hS.own _ (List.mem_of_getElem? (i := 0) rfl)).1) oc_nil))) bQ) ?_
       clear hF hS; rintro _ _ _ a w ⟨rfl, rfl, rfl⟩ hF hS
       refine ⟨⟨iQ, iQ, iQ, iQ, iQ, iQ, iQ, trivial⟩, ?_⟩
       exact goW_done kQ (j7_mk v_1_0 v_1_3 v_1_4 v_1_7 v_1_8 v_1_11 b_1_13 (trivial) (hF.sub (L' := [(1, _), (2, _), (6, _), (7, _)]) ⟨rfl, rfl, rfl, rfl, trivial⟩) ((hS.perm (.swap _ _ _)).perm (.cons _ (.cons _ (.swap _ _ _)))))
    ·refine stepW_ef _ rfl rfl hF hS rfl (ef_bslice0 ty23 ty4) ?_
     clear hF hS; rintro v_1_8 _ _ a w ⟨rfl, rfl⟩ hF hS
     refine ⟨⟨.inr (hS.k1 (sQ.n.n.n.n)), .inr hS.k0, .inr (hS.k1 (sQ.n.n.n.n)), .inr hS.k0, .inr (hS.k1 (sQ.n.n.n.n)), .inr hS.k0, trivial⟩, ?_⟩
     refine goW_fork [3, 13] kQ rfl ⟨?_, ?_, trivial⟩
     ·refine stepW_ef _ rfl rfl hF hS rfl (ef_append ty22 ty3 1 rfl rfl rfl (src_slV ty22 hx zin0) bQ rfl (by decide)) ?_
      clear hF hS; rintro v_1_3 _ _ a w ⟨rfl, rfl⟩ hF hS
      refine ⟨⟨.inr (hS.k1 (sQ.n.n.n.n)), .inr hS.k0, .inr (hS.k1 (sQ.n.n.n.n)), .inr hS.k0, iQ, iQ, trivial⟩, ?_⟩
      refine goW_fork [7, 13] kQ rfl ⟨?_, ?_, trivial⟩
      ·refine stepW_ef _ rfl rfl hF hS rfl (ef_append ty22 ty3 2 rfl rfl rfl (src_slV ty22 hy zin0) bQ rfl (by decide)) ?_
       clear hF hS; rintro v_1_7 _ _ a w ⟨rfl, rfl⟩ hF hS
       refine ⟨⟨.inr (hS.k1 (sQ.n.n.n.n)), .inr hS.k0, iQ, iQ, iQ, iQ, trivial⟩, ?_⟩
       refine goW_fork [11, 13] kQ rfl ⟨?_, ?_, trivial⟩
       ·refine stepW_ef _ rfl rfl hF hS rfl (ef_append ty23 ty4 0 rfl rfl rfl (src_slV ty23 hz zin0) bQ rfl (by decide)) ?_
        clear hF hS; rintro v_1_11 _ _ a w ⟨rfl, rfl⟩ hF hS
        refine ⟨⟨iQ, iQ, iQ, iQ, iQ, iQ, trivial⟩, ?_⟩
        refine goW_take 12 _ rfl kQ rfl hF (hS.keep sQ (zQ.k.k.k)) (q_buildS1 ty67 3 kQ rfl rfl (oc_cons (row_one (hS.own _ (List.mem_of_getElem? (i := 1) rfl)).1) (oc_cons (row_one (hS.own _ (List.mem_of_getElem? (i := 2) rfl)).1) (oc_cons (row_one (hS.own _ (List.mem_of_getElem? (i := 0) rfl)).1) oc_nil))) rfl rfl) ?_
        clear hF; intro a hF
        refine gQ 13 rfl rfl hF hS rfl (ef_allocA ty67) ?_
        clear hF hS; rintro _ _ _ a w ⟨b_1_13, rfl, rfl, rfl⟩ hF hS
        refine ⟨⟨.inr (hS.k1 (zQ.k.k.k.n)), iQ, iQ, iQ, iQ, iQ, iQ, trivial⟩, ?_⟩
        refine gQ 14 rfl rfl hF hS rfl (ef_storeW ty67 0 rfl rfl rfl rfl bQ (oc_cons (row_one (hS.own _ (List.mem_of_getElem? (i := 2) rfl)).1) (oc_cons (row_one (hS.own _ (List.mem_of_getElem? (i := 3) rfl)).1) (oc_cons (row_one (hS.own _ (List.mem_of_getElem? (i := 1) rfl)).1) oc_nil))) bQ) ?_
        clear hF hS; rintro _ _ _ a w ⟨rfl, rfl, rfl⟩ hF hS
        refine ⟨⟨iQ, iQ, iQ, iQ, iQ, iQ, iQ, trivial⟩, ?_⟩
        exact goW_done kQ (j7_mk v_1_0 v_1_3 v_1_4 v_1_7 v_1_8 v_1_11 b_1_13 (trivial) (hF.sub (L' := [(1, _), (2, _), (6, _), (7, _)]) ⟨rfl, rfl, rfl, rfl, trivial⟩) (hS.perm (.cons _ (.cons _ (.swap _ _ _)))))
       ·refine stepW_ef _ rfl rfl hF hS rfl (ef_allocA ty67) ?_
        clear hF hS; rintro _ _ _ a w ⟨b_1_13, rfl, rfl, rfl⟩ hF hS
        refine ⟨⟨.inr (hS.k1 (sQ.n.n.n.n.n)), .inr hS.k0, iQ, iQ, iQ, iQ, trivial⟩, ?_⟩
        refine gQ 11 rfl rfl hF hS rfl (ef_append ty23 ty4 1 rfl rfl rfl (src_slV ty23 hz zin0) bQ rfl (by decide)) ?_
        clear hF hS; rintro v_1_11 _ _ a w ⟨rfl, rfl⟩ hF hS
        refine ⟨⟨iQ, iQ, iQ, iQ, iQ, iQ, trivial⟩, ?_⟩
        refine goW_take 12 _ rfl kQ rfl hF (hS.keep sQ (zQ.k.k.k.n)) (q_buildS1 ty67 3 kQ rfl rfl (oc_cons (row_one (hS.own _ (List.mem_of_getElem? (i := 2) rfl)).1) (oc_cons (row_one (hS.own _ (List.mem_of_getElem? (i := 3) rfl)).1) (oc_cons (row_one (hS.own _ (List.mem_of_getElem? (i := 1) rfl)).1) oc_nil))) rfl rfl) ?_
        clear hF; intro a hF
        refine gQ 14 rfl rfl hF hS rfl (ef_storeW ty67 0 rfl rfl rfl rfl bQ (oc_cons (row_one (hS.own _ (List.mem_of_getElem? (i := 2) rfl)).1) (oc_cons (row_one (hS.own _ (List.mem_of_getElem? (i := 3) rfl)).1) (oc_cons (row_one (hS.own _ (List.mem_of_getElem? (i := 1) rfl)).1) oc_nil))) bQ) ?_
        clear hF hS; rintro _ _ _ a w ⟨rfl, rfl, rfl⟩ hF hS
        refine ⟨⟨iQ, iQ, iQ, iQ, iQ, iQ, iQ, trivial⟩, ?_⟩
        exact goW_done kQ (j7_mk v_1_0 v_1_3 v_1_4 v_1_7 v_1_8 v_1_11 b_1_13 (trivial) (hF.sub (L' := [(1, _), (2, _), (6, _), (7, _)]) ⟨rfl, rfl, rfl, rfl, trivial⟩) (hS.perm (.cons _ (.cons _ (.swap _ _ _)))))
      ·refine stepW_ef _ rfl rfl hF hS rfl (ef_allocA ty67) ?_
       clear hF hS; rintro _ _ _ a w ⟨b_1_13, rfl, rfl, rfl⟩ hF hS
       refine ⟨⟨.inr (hS.k1 (sQ.n.n.n.n.n)), .inr hS.k0, .inr (hS.k1 (sQ.n.n.n.n.n)), .inr hS.k0, iQ, iQ, trivial⟩, ?_⟩
       refine gQ 7 rfl rfl hF hS rfl (ef_append ty22 ty3 3 rfl rfl rfl (src_slV ty22 hy zin0) bQ rfl (by decide)) ?_
       clear hF hS; rintro v_1_7 _ _ a w ⟨rfl, rfl⟩ hF hS
       refine ⟨⟨.inr (hS.k1 (sQ.n.n.n.n.n)), .inr hS.k0, iQ, iQ, iQ, iQ, trivial⟩, ?_⟩
       refine gQ 11 rfl rfl hF hS rfl (ef_append ty23 ty4 1 rfl rfl rfl (src_slV ty23 hz zin0) bQ rfl (by decide)) ?_
       clear hF hS; rintro v_1_11 _ _ a w ⟨rfl, rfl⟩ hF hS
       refine ⟨⟨iQ, iQ, iQ, iQ, iQ, iQ, trivial⟩, ?_⟩
       refine goW_take 12 _ rfl kQ rfl hF (hS.keep sQ (zQ.k.k.k.n)) (q_buildS1 ty67 3 kQ rfl rfl (oc_cons (row_one (hS.own _ (List.mem_of_getElem? (i := 2) rfl)).1) (oc_cons (row_one (hS.own _ (List.mem_of_getElem? (i := 3) rfl)).1) (oc_cons (row_one (hS.own _ (List.mem_of_getElem? (i := 1) rfl)).1) oc_nil))) rfl rfl) ?_
       clear hF; intro a hF
       refine gQ 14 rfl rfl hF hS rfl (ef_storeW ty67 0 rfl rfl rfl rfl bQ (oc_cons (row_one (hS.own _ (List.mem_of_getElem? (i := 2) rfl)).1) (oc_cons (row_one (hS.own _ (List.mem_of_getElem? (i := 3) rfl)).1) (oc_cons (row_one (hS.own _ (List.mem_of_getElem? (i := 1) rfl)).1) oc_nil))) bQ) ?_
       clear hF hS; rintro _ _ _ a w ⟨rfl, rfl, rfl⟩ hF hS
       refine ⟨⟨iQ, iQ, iQ, iQ, iQ, iQ, iQ, trivial⟩, ?_⟩
       exact goW_done kQ (j7_mk v_1_0 v_1_3 v_1_4 v_1_7 v_1_8 v_1_11 b_1_13 (trivial) (hF.sub (L' := [(1, _), (2, _), (6, _), (7, _)]) ⟨rfl, rfl, rfl, rfl, trivial⟩) (hS.perm (.cons _ (.cons _ (.swap _ _ _)))))
     ·refine stepW_ef _ rfl rfl hF hS rfl (ef_allocA ty67) ?_
      clear hF hS; rintro _ _ _ a w ⟨b_1_13, rfl, rfl, rfl⟩ hF hS
      refine ⟨⟨.inr (hS.k1 (sQ.n.n.n.n.n)), .inr hS.k0, .inr (hS.k1 (sQ.n.n.n.n.n)), .inr hS.k0, .inr (hS.k1 (sQ.n.n.n.n.n)), .inr hS.k0, trivial⟩, ?_⟩
      refine gQ 3 rfl rfl hF hS rfl (ef_append ty22 ty3 2 rfl rfl rfl (src_slV ty22 hx zin0) bQ rfl (by decide)) ?_
      clear hF hS; rintro v_1_3 _ _ a w ⟨rfl, rfl⟩ hF hS
      refine ⟨⟨.inr (hS.k1 (sQ.n.n.n.n.n)), .inr hS.k0, .inr (hS.k1 (sQ.n.n.n.n.n)), .inr hS.k0, iQ, iQ, trivial⟩, ?_⟩
      refine gQ 7 rfl rfl hF hS rfl (ef_append ty22 ty3 3 rfl rfl rfl (src_slV ty22 hy zin0) bQ rfl (by decide)) ?_
      clear hF hS; rintro v_1_7 _ _ a w ⟨rfl, rfl⟩ hF hS
      refine ⟨⟨.inr (hS.k1 (sQ.n.n.n.n.n)), .inr hS.k0, iQ, iQ, iQ, iQ, trivial⟩, ?_⟩
      refine gQ 11 rfl rfl hF hS rfl (ef_append ty23 ty4 1 rfl rfl rfl (src_slV ty23 hz zin0) bQ rfl (by decide)) ?_
      clear hF hS; rintro v_1_11 _ _ a w ⟨rfl, rfl⟩ hF hS
      refine ⟨⟨iQ, iQ, iQ, iQ, iQ, iQ, trivial⟩, ?_⟩
      refine goW_take 12 _ rfl kQ rfl hF (hS.keep sQ (zQ.k.k.k.n)) (q_buildS1 ty67 3 kQ rfl rfl (oc_cons (row_one (hS.own _ (List.mem_of_getElem? (i := 2) rfl)).1) (oc_cons (row_one (hS.own _ (List.mem_of_getElem? (i := 3) rfl)).1) (oc_cons (row_one (hS.own _ (List.mem_of_getElem? (i := 1) rfl)).1) oc_nil))) rfl rfl) ?_
      clear hF; intro a hF
      refine gQ 14 rfl rfl hF hS rfl (ef_storeW ty67 0 rfl rfl rfl rfl bQ (oc_cons (row_one (hS.own _ (List.mem_of_getElem? (i := 2) rfl)).1) (oc_cons (row_one (hS.own _ (List.mem_of_getElem? (i := 3) rfl)).1) (oc_cons (row_one (hS.own _ (List.mem_of_getElem? (i := 1) rfl)).1) oc_nil))) bQ) ?_
      clear hF hS; rintro _ _ _ a w ⟨rfl, rfl, rfl⟩ hF hS
      refine ⟨⟨iQ, iQ, iQ, iQ, iQ, iQ, iQ, trivial⟩, ?_⟩
      exact goW_done kQ (j7_mk v_1_0 v_1_3 v_1_4 v_1_7 v_1_8 v_1_11 b_1_13 (trivial) (hF.sub (L' := [(1, _), (2, _), (6, _), (7, _)]) ⟨rfl, rfl, rfl, rfl, trivial⟩) (hS.perm (.cons _ (.cons _ (.swap _ _ _)))))
    ·refine stepW_ef _ rfl rfl hF hS rfl (ef_allocA ty67) ?_
     clear hF hS; rintro _ _ _ a w ⟨b_1_13, rfl, rfl, rfl⟩ hF hS
     refine ⟨⟨.inr (hS.k1 (sQ.n.n.n.n)), .inr hS.k0, .inr (hS.k1 (sQ.n.n.n.n)), .inr hS.k0, .inr (hS.k1 (sQ.n.n.n.n)), .inr hS.k0, trivial⟩, ?_⟩
     refine goW_fork [3, 8] kQ rfl ⟨?_, ?_, trivial⟩
     ·refine stepW_ef _ rfl rfl hF hS rfl (ef_append ty22 ty3 1 rfl rfl rfl (src_slV ty22 hx zin0) bQ rfl (by decide)) ?_
      clear hF hS; rintro v_1_3 _ _ a w ⟨rfl, rfl⟩ hF hS
      refine ⟨⟨.inr (hS.k1 (sQ.n.n.n.n)), .inr hS.k0, .inr (hS.k1 (sQ.n.n.n.n)), .inr hS.k0, iQ, iQ, trivial⟩, ?_⟩
      refine goW_fork [7, 8] kQ rfl ⟨?_, ?_, trivial⟩
      ·refine stepW_ef _ rfl rfl hF hS rfl (ef_append ty22 ty3 2 rfl rfl rfl (src_slV ty22 hy zin0) bQ rfl (by decide)) ?_
       clear hF hS; rintro v_1_7 _ _ a w ⟨rfl, rfl⟩ hF hS
       refine ⟨⟨.inr (hS.k1 (sQ.n.n.n.n)), .inr hS.k0, iQ, iQ, iQ, iQ, trivial⟩, ?_⟩
       refine gQ 8 rfl rfl hF hS rfl (ef_bslice0 ty23 ty4) ?_
       clear hF hS; rintro v_1_8 _ _ a w ⟨rfl, rfl⟩ hF hS
       refine ⟨⟨.inr (hS.k1 (sQ.n.n.n.n.n)), .inr hS.k0, iQ, iQ, iQ, iQ, trivial⟩, ?_⟩
       refine gQ 11 rfl rfl hF hS rfl (ef_append ty23 ty4 0 rfl rfl rfl (src_slV ty23 hz zin0) bQ rfl (by decide)) ?_
       clear hF hS; rintro v_1_11 _ _ a w ⟨rfl, rfl⟩ hF hS
       refine ⟨⟨iQ, iQ, iQ, iQ, iQ, iQ, trivial⟩, ?_⟩
       refine goW_take 12 _ rfl kQ rfl hF (hS.keep sQ (zQ.k.k.n.k)) (q_buildS1 ty67 3 kQ rfl rfl (oc_cons (row_one (hS.own _ (List.mem_of_getElem? (i := 2) rfl)).1) (oc_cons (row_one (hS.own _ (List.mem_of_getElem? (i := 3) rfl)).1) (oc_cons (row_one (hS.own _ (List.mem_of_getElem? (i := 0) rfl)).1) oc_nil))) rfl rfl) ?_
       clear hF; intro a hF
       refine gQ 14 rfl rfl hF hS rfl (ef_storeW ty67 1 rfl rfl rfl rfl bQ (oc_cons (row_one (hS.own _ (List.mem_of_getElem? (i := 2) rfl)).1) (oc_cons (row_one (hS.own _ (List.mem_of_getElem? (i := 3) rfl)).1) (oc_cons (row_one (hS.own _ (List.mem_of_getElem? (i := 0) rfl)).1) oc_nil))) bQ) ?_
       clear hF hS; rintro _ _ _ a w ⟨rfl, rfl, rfl⟩ hF hS
       refine ⟨⟨iQ, iQ, iQ, iQ, iQ, iQ, iQ, trivial⟩, ?_⟩
       exact goW_done kQ (j7_mk v_1_0 v_1_3 v_1_4 v_1_7 v_1_8 v_1_11 b_1_13 (trivial) (hF.sub (L' := [(1, _), (2, _), (6, _), (7, _)]) ⟨rfl, rfl, rfl, rfl, trivial⟩) ((hS.perm (.swap _ _ _)).perm (.cons _ (.cons _ (.swap _ _ _)))))
      ·refine stepW_ef _ rfl rfl hF hS rfl (ef_bslice0 ty23 ty4) ?_
       clear hF hS; rintro v_1_8 _ _ a w ⟨rfl, rfl⟩ hF hS
       refine ⟨⟨.inr (hS.k1 (sQ.n.n.n.n.n)), .inr hS.k0, .inr (hS.k1 (sQ.n.n.n.n.n)), .inr hS.k0, iQ, iQ, trivial⟩, ?_⟩
       refine gQ 7 rfl rfl hF hS rfl (ef_append ty22 ty3 3 rfl rfl rfl (src_slV ty22 hy zin0) bQ rfl (by decide)) ?_
       clear hF hS; rintro v_1_7 _ _ a w ⟨rfl, rfl⟩ hF hS
       refine ⟨⟨.inr (hS.k1 (sQ.n.n.n.n.n)), .inr hS.k0, iQ, iQ, iQ, iQ, trivial⟩, ?_⟩
       refine gQ 11 rfl rfl hF hS rfl (ef_append ty23 ty4 0 rfl rfl rfl (src_slV ty23 hz zin0) bQ rfl (by decide)) ?_
       clear hF hS; rintro v_1_11 _ _ a w ⟨rfl, rfl⟩ hF hS
       refine ⟨⟨iQ, iQ, iQ, iQ, iQ, iQ, trivial⟩, ?_⟩
       refine goW_take 12 _ rfl kQ rfl hF (hS.keep sQ (zQ.k.k.n.k)) (q_buildS1 ty67 3 kQ rfl rfl (oc_cons (row_one (hS.own _ (List.mem_of_getElem? (i := 2) rfl)).1) (oc_cons (row_one (hS.own _ (List.mem_of_getElem? (i := 3) rfl)).1) (oc_cons (row_one (hS.own _ (List.mem_of_getElem? (i := 0) rfl)).1) oc_nil))) rfl rfl) ?_
       clear hF; intro a hF
       refine gQ 14 rfl rfl hF hS rfl (ef_storeW ty67 1 rfl rfl rfl rfl bQ (oc_cons (row_one (hS.own _ (List.mem_of_getElem? (i := 2) rfl)).1) (oc_cons (row_one (hS.own _ (List.mem_of_getElem? (i := 3) rfl)).1) (oc_cons (row_one (hS.own _ (List.mem_of_getElem? (i := 0) rfl)).1) oc_nil))) bQ) ?_
       clear hF hS; rintro _ _ _ a w ⟨rfl, rfl, rfl⟩ hF hS
       refine ⟨⟨iQ, iQ, iQ, iQ, iQ, iQ, iQ, trivial⟩, ?_⟩
       exact goW_done kQ (j7_mk v_1_0 v_1_3 v_1_4 v_1_7 v_1_8 v_1_11 b_1_13 (trivial) (hF.sub (L' := [(1, _), (2, _), (6, _), (7, _)]) ⟨rfl, rfl, rfl, rfl, trivial⟩) ((hS.perm (.swap _ _ _)).perm (.cons _ (.cons _ (.swap _ _ _)))))
     ·refine stepW_ef _ rfl rfl hF hS rfl (ef_bslice0 ty23 ty4) ?_
      clear hF hS; rintro v_1_8 _ _ a w ⟨rfl, rfl⟩ hF hS
      refine ⟨⟨.inr (hS.k1 (sQ.n.n.n.n.n)), .inr hS.k0, .inr (hS.k1 (sQ.n.n.n.n.n)), .inr hS.k0, .inr (hS.k1 (sQ.n.n.n.n.n)), .inr hS.k0, trivial⟩, ?_⟩
      refine gQ 3 rfl rfl hF hS rfl (ef_append ty22 ty3 2 rfl rfl rfl (src_slV ty22 hx zin0) bQ rfl (by decide)) ?_
      clear hF hS; rintro v_1_3 _ _ a w ⟨rfl, rfl⟩ hF hS
      refine ⟨⟨.inr (hS.k1 (sQ.n.n.n.n.n)), .inr hS.k0, .inr (hS.k1 (sQ.n.n.n.n.n)), .inr hS.k0, iQ, iQ, trivial⟩, ?_⟩
      refine gQ 7 rfl rfl hF hS rfl (ef_append ty22 ty3 3 rfl rfl rfl (src_slV ty22 hy zin0) bQ rfl (by decide)) ?_
      clear hF hS; rintro v_1_7 _ _ a w ⟨rfl, rfl⟩ hF hS
      refine ⟨⟨.inr (hS.k1 (sQ.n.n.n.n.n)), .inr hS.k0, iQ, iQ, iQ, iQ, trivial⟩, ?_⟩
      refine gQ 11 rfl rfl hF hS rfl (ef_append ty23 ty4 0 rfl rfl rfl (src_slV ty23 hz zin0) bQ rfl (by decide)) ?_
      clear hF hS; rintro v_1_11 _ _ a w ⟨rfl, rfl⟩ hF hS
      refine ⟨⟨iQ, iQ, iQ, iQ, iQ, iQ, trivial⟩, ?_⟩
      refine goW_take 12 _ rfl kQ rfl hF (hS.keep sQ (zQ.k.k.n.k)) (q_buildS1 ty67 3 kQ rfl rfl (oc_cons (row_one (hS.own _ (List.mem_of_getElem? (i := 2) rfl)).1) (oc_cons (row_one (hS.own _ (List.mem_of_getElem? (i := 3) rfl)).1) (oc_cons (row_one (hS.own _ (List.mem_of_getElem? (i := 0) rfl)).1) oc_nil))) rfl rfl) ?_
      clear hF; intro a hF
      refine gQ 14 rfl rfl hF hS rfl (ef_storeW ty67 1 rfl rfl rfl rfl bQ (oc_cons (row_one (hS.own _ (List.mem_of_getElem? (i := 2) rfl)).1) (oc_cons (row_one (hS.own _ (List.mem_of_getElem? (i := 3) rfl)).1) (oc_cons (row_one (hS.own _ (List.mem_of_getElem? (i := 0) rfl)).1) oc_nil))) bQ) ?_
      clear hF hS; rintro _ _ _ a w ⟨rfl, rfl, rfl⟩ hF hS
      refine ⟨⟨iQ, iQ, iQ, iQ, iQ, iQ, iQ, trivial⟩, ?_⟩
      exact goW_done kQ (j7_mk v_1_0 v_1_3 v_1_4 v_1_7 v_1_8 v_1_11 b_1_13 (trivial) (hF.sub (L' := [(1, _), (2, _), (6, _), (7, _)]) ⟨rfl, rfl, rfl, rfl, trivial⟩) ((hS.perm (.swap _ _ _)).perm (.cons _ (.cons _ (.swap _ _ _)))))
   ·refine stepW_ef _ rfl rfl hF hS rfl (ef_bslice0 ty23 ty4) ?_
    clear hF hS; rintro v_1_8 _ _ a w ⟨rfl, rfl⟩ hF hS
    refine ⟨⟨.inr (hS.k1 (sQ.n.n.n)), .inr hS.k0, .inr (hS.k1 (sQ.n.n.n)), .inr hS.k0, .inr (hS.k1 (sQ.n.n.n)), .inr hS.k0, trivial⟩, ?_⟩
    refine goW_fork [0, 13] kQ rfl ⟨?_, ?_, trivial⟩
    ·refine stepW_ef _ rfl rfl hF hS rfl (ef_bslice0 ty22 ty3) ?_
     clear hF hS; rintro v_1_0 _ _ a w ⟨rfl, rfl⟩ hF hS
     refine ⟨⟨.inr (hS.k1 (sQ.n.n.n.n)), .inr hS.k0, .inr (hS.k1 (sQ.n.n.n.n)), .inr hS.k0, .inr (hS.k1 (sQ.n.n.n.n)), .inr hS.k0, trivial⟩, ?_⟩
     refine goW_fork [3, 13] kQ rfl ⟨?_, ?_, trivial⟩
     ·refine stepW_ef _ rfl rfl hF hS rfl (ef_append ty22 ty3 0 rfl rfl rfl (src_slV ty22 hx zin0) bQ rfl (by decide)) ?_
      clear hF hS; rintro v_1_3 _ _ a w ⟨rfl, rfl⟩ hF hS
      refine ⟨⟨.inr (hS.k1 (sQ.n.n.n.n)), .inr hS.k0, .inr (hS.k1 (sQ.n.n.n.n)), .inr hS.k0, iQ, iQ, trivial⟩, ?_⟩
      refine goW_fork [7, 13] kQ rfl ⟨?_, ?_, trivial⟩
      ·refine stepW_ef _ rfl rfl hF hS rfl (ef_append ty22 ty3 2 rfl rfl rfl (src_slV ty22 hy zin0) bQ rfl (by decide)) ?_
       clear hF hS; rintro v_1_7 _ _ a w ⟨rfl, rfl⟩ hF hS
       refine ⟨⟨.inr (hS.k1 (sQ.n.n.n.n)), .inr hS.k0, iQ, iQ, iQ, iQ, trivial⟩, ?_⟩
       refine goW_fork [11, 13] kQ rfl ⟨?_, ?_, trivial⟩
       ·refine stepW_ef _ rfl rfl hF hS rfl (ef_append ty23 ty4 1 rfl rfl rfl (src_slV ty23 hz zin0) bQ rfl (by decide)) ?_
        clear hF hS; rintro v_1_11 _ _ a w ⟨rfl, rfl⟩ hF hS
        refine ⟨⟨iQ, iQ, iQ, iQ, iQ, iQ, trivial⟩, ?_⟩
        refine goW_take 12 _ rfl kQ rfl hF (hS.keep sQ (zQ.k.k.k)) (q_buildS1 ty67 3 kQ rfl rfl (oc_cons (row_one (hS.own _ (List.mem_of_getElem? (i := 0) rfl)).1) (oc_cons (row_one (hS.own _ (List.mem_of_getElem? (i := 2) rfl)).1) (oc_cons (row_one (hS.own _ (List.mem_of_getElem? (i := 1) rfl)).1) oc_nil))) rfl rfl) ?_
        clear hF; intro a hF
        refine gQ 13 rfl rfl hF hS rfl (ef_allocA ty67) ?_
        clear hF hS; rintro _ _ _ a w ⟨b_1_13, rfl, rfl, rfl⟩ hF hS
        refine ⟨⟨.inr (hS.k1 (zQ.k.k.k.n)), iQ, iQ, iQ, iQ, iQ, iQ, trivial⟩, ?_⟩
        refine gQ 14 rfl rfl hF hS rfl (ef_storeW ty67 0 rfl rfl rfl rfl bQ (oc_cons (row_one (hS.own _ (List.mem_of_getElem? (i := 1) rfl)).1) (oc_cons (row_one (hS.own _ (List.mem_of_getElem? (i := 3) rfl)).1) (oc_cons (row_one (hS.own _ (List.mem_of_getElem? (i := 2) rfl)).1) oc_nil))) bQ) ?_
        clear hF hS; rintro _ _ _ a w ⟨rfl, rfl, rfl⟩ hF hS
        refine ⟨⟨iQ, iQ, iQ, iQ, iQ, iQ, iQ, trivial⟩, ?_⟩
        exact goW_done kQ (j7_mk v_1_0 v_1_3 v_1_4 v_1_7 v_1_8 v_1_11 b_1_13 (trivial) (hF.sub (L' := [(1, _), (2, _), (6, _), (7, _)]) ⟨rfl, rfl, rfl, rfl, trivial⟩) ((hS.perm (.cons _ (.swap _ _ _))).perm (.cons _ (.cons _ (.swap _ _ _)))))
       ·refine stepW_ef _ rfl rfl hF hS rfl (ef_allocA ty67) ?_
        clear hF hS; rintro _ _ _ a w ⟨b_1_13, rfl, rfl, rfl⟩ hF hS
        refine ⟨⟨.inr (hS.k1 (sQ.n.n.n.n.n)), .inr hS.k0, iQ, iQ, iQ, iQ, trivial⟩, ?_⟩
        refine gQ 11 rfl rfl hF hS rfl (ef_append ty23 ty4 2 rfl rfl rfl (src_slV ty23 hz zin0) bQ rfl (by decide)) ?_
        clear hF hS; rintro v_1_11 _ _ a w ⟨rfl, rfl⟩ hF hS
        refine ⟨⟨iQ, iQ, iQ, iQ, iQ, iQ, trivial⟩, ?_⟩
        refine goW_take 12 _ rfl kQ rfl hF (hS.keep sQ (zQ.k.k.k.n)) (q_buildS1 ty67 3 kQ rfl rfl (oc_cons (row_one (hS.own _ (List.mem_of_getElem? (i := 1) rfl)).1) (oc_cons (row_one (hS.own _ (List.mem_of_getElem? (i := 3) rfl)).1) (oc_cons (row_one (hS.own _ (List.mem_of_getElem? (i := 2) rfl)).1) oc_nil))) rfl rfl) ?_
        clear hF; intro a hF
        refine gQ 14 rfl rfl hF hS rfl (ef_storeW ty67 0 rfl rfl rfl rfl bQ (oc_cons (row_one (hS.own _ (List.mem_of_getElem? (i := 1) rfl)).1) (oc_cons (row_one (hS.own _ (List.mem_of_getElem? (i := 3) rfl)).1) (oc_cons (row_one (hS.own _ (List.mem_of_getElem? (i := 2) rfl)).1) oc_nil))) bQ) ?_
        clear hF hS; rintro _ _ _ a w ⟨rfl, rfl, rfl⟩ hF hS
        refine ⟨⟨iQ, iQ, iQ, iQ, iQ, iQ, iQ, trivial⟩, ?_⟩
        exact goW_done kQ (j7_mk v_1_0 v_1_3 v_1_4 v_1_7 v_1_8 v_1_11 b_1_13 (trivial) (hF.sub (L' := [(1, _), (2, _), (6, _), (7, _)]) ⟨rfl, rfl, rfl, rfl, trivial⟩) ((hS.perm (.cons _ (.swap _ _ _))).perm (.cons _ (.cons _ (.swap _ _ _)))))
      ·refine stepW_ef _ rfl rfl hF hS rfl (ef_allocA ty67) ?_
       clear hF hS; rintro _ _ _ a w ⟨b_1_13, rfl, rfl, rfl⟩ hF hS
       refine ⟨⟨.inr (hS.k1 (sQ.n.n.n.n.n)), .inr hS.k0, .inr (hS.k1 (sQ.n.n.n.n.n)), .inr hS.k0, iQ, iQ, trivial⟩, ?_⟩
       refine gQ 7 rfl rfl hF hS rfl (ef_append ty22 ty3 3 rfl rfl rfl (src_slV ty22 hy zin0) bQ rfl (by decide)) ?_
       clear hF hS; rintro v_1_7 _ _ a w ⟨rfl, rfl⟩ hF hS
       refine ⟨⟨.inr (hS.k1 (sQ.n.n.n.n.n)), .inr hS.k0, iQ, iQ, iQ, iQ, trivial⟩, ?_⟩
       refine gQ 11 rfl rfl hF hS rfl (ef_append ty23 ty4 2 rfl rfl rfl (src_slV ty23 hz zin0) bQ rfl (by decide)) ?_
       clear hF hS; rintro v_1_11 _ _ a w ⟨rfl, rfl⟩ hF hS
       refine ⟨⟨iQ, iQ, iQ, iQ, iQ, iQ, trivial⟩, ?_⟩
       refine goW_take 12 _ rfl kQ rfl hF (hS.keep sQ (zQ.k.k.k.n)) (q_buildS1 ty67 3 kQ rfl rfl (oc_cons (row_one (hS.own _ (List.mem_of_getElem? (i := 1) rfl)).1) (oc_cons (row_one (hS.own _ (List.mem_of_getElem? (i := 3) rfl)).1) (oc_cons (row_one (hS.own _ (List.mem_of_getElem? (i := 2) rfl)).1) oc_nil))) rfl rfl) ?_
       clear hF; intro a hF
       refine gQ 14 rfl rfl hF hS rfl (ef_storeW ty67 0 rfl rfl rfl rfl bQ (oc_cons (row_one (hS.own _ (List.mem_of_getElem? (i := 1) rfl)).1) (oc_cons (row_one (hS.own _ (List.mem_of_getElem? (i := 3) rfl)).1) (oc_cons (row_one (hS.own _ (List.mem_of_getElem? (i := 2) rfl)).1) oc_nil))) bQ) ?_
       clear hF hS; rintro _ _ _ a w ⟨rfl, rfl, rfl⟩ hF hS
       refine ⟨⟨iQ, iQ, iQ, iQ, iQ, iQ, iQ, trivial⟩, ?_⟩
       exact goW_done kQ (j7_mk v_1_0 v_1_3 v_1_4 v_1_7 v_1_8 v_1_11 b_1_13 (trivial) (hF.sub (L' := [(1, _), (2, _), (6, _), (7, _)]) ⟨rfl, rfl, rfl, rfl, trivial⟩) ((hS.perm (.cons _ (.swap _ _ _))).perm (.cons _ (.cons _ (.swap _ _ _)))))
     ·refine stepW_ef _ rfl rfl hF hS rfl (ef_allocA ty67) ?_
      clear hF hS; rintro _ _ _ a w ⟨b_1_13, rfl, rfl, rfl⟩ hF hS
      refine ⟨⟨.inr (hS.k1 (sQ.n.n.n.n.n)), .inr hS.k0, .inr (hS.k1 (sQ.n.n.n.n.n)), .inr hS.k0, .inr (hS.k1 (sQ.n.n.n.n.n)), .inr hS.k0, trivial⟩, ?_⟩
      refine gQ 3 rfl rfl hF hS rfl (ef_append ty22 ty3 1 rfl rfl rfl (src_slV ty22 hx zin0) bQ rfl (by decide)) ?_
      clear hF hS; rintro v_1_3 _ _ a w ⟨rfl, rfl⟩ hF hS
      refine ⟨⟨.inr (hS.k1 (sQ.n.n.n.n.n)), .inr hS.k0, .inr (hS.k1 (sQ.n.n.n.n.n)), .inr hS.k0, iQ, iQ, trivial⟩, ?_⟩
      refine gQ 7 rfl rfl hF hS rfl (ef_append ty22 ty3 3 rfl rfl rfl (src_slV ty22 hy zin0) bQ rfl (by decide)) ?_
      clear hF hS; rintro v_1_7 _ _ a w ⟨rfl, rfl⟩ hF hS
      refine ⟨⟨.inr (hS.k1 (sQ.n.n.n.n.n)), .inr hS.k0, iQ, iQ, iQ, iQ, trivial⟩, ?_⟩
      refine gQ 11 rfl rfl hF hS rfl (ef_append ty23 ty4 2 rfl rfl rfl (src_slV ty23 hz zin0) bQ rfl (by decide)) ?_
      clear hF hS; rintro v_1_11 _ _ a w ⟨rfl, rfl⟩ hF hS
      refine ⟨⟨iQ, iQ, iQ, iQ, iQ, iQ, trivial⟩, ?_⟩
      refine goW_take 12 _ rfl kQ rfl hF (hS.keep sQ (zQ.k.k.k.n)) (q_buildS1 ty67 3 kQ rfl rfl (oc_cons (row_one (hS.own _ (List.mem_of_getElem? (i := 1) rfl)).1) (oc_cons (row_one (hS.own _ (List.mem_of_getElem? (i := 3) rfl)).1) (oc_cons (row_one (hS.own _ (List.mem_of_getElem? (i := 2) rfl)).1) oc_nil))) rfl rfl) ?_
      clear hF; intro a hF
      refine gQ 14 rfl rfl hF hS rfl (ef_storeW ty67 0 rfl rfl rfl rfl bQ (oc_cons (row_one (hS.own _ (List.mem_of_getElem? (i := 1) rfl)).1) (oc_cons (row_one (hS.own _ (List.mem_of_getElem? (i := 3) rfl)).1) (oc_cons (row_one (hS.own _ (List.mem_of_getElem? (i := 2) rfl)).1) oc_nil))) bQ) ?_
      clear hF hS; rintro _ _ _ a w ⟨rfl, rfl, rfl⟩ hF hS
      refine ⟨⟨iQ, iQ, iQ, iQ, iQ, iQ, iQ, trivial⟩, ?_⟩
      exact goW_done kQ (j7_mk v_1_0 v_1_3 v_1_4 v_1_7 v_1_8 v_1_11 b_1_13 (trivial) (hF.sub (L' := [(1, _), (2, _), (6, _), (7, _)]) ⟨rfl, rfl, rfl, rfl, trivial⟩) ((hS.perm (.cons _ (.swap _ _ _))).perm (.cons _ (.cons _ (.swap _ _ _)))))
    ·refine stepW_ef _ rfl rfl hF hS rfl (ef_allocA ty67) ?_
     clear hF hS; rintro _ _ _ a w ⟨b_1_13, rfl, rfl, rfl⟩ hF hS
     refine ⟨⟨.inr (hS.k1 (sQ.n.n.n.n)), .inr hS.k0, .inr (hS.k1 (sQ.n.n.n.n)), .inr hS.k0, .inr (hS.k1 (sQ.n.n.n.n)), .inr hS.k0, trivial⟩, ?_⟩
     refine gQ 0 rfl rfl hF hS rfl (ef_bslice0 ty22 ty3) ?_
     clear hF hS; rintro v_1_0 _ _ a w ⟨rfl, rfl⟩ hF hS
     refine ⟨⟨.inr (hS.k1 (sQ.n.n.n.n.n)), .inr hS.k0, .inr (hS.k1 (sQ.n.n.n.n.n)), .inr hS.k0, .inr (hS.k1 (sQ.n.n.n.n.n)), .inr hS.k0, trivial⟩, ?_⟩
     refine gQ 3 rfl rfl hF hS rfl (ef_append ty22 ty3 0 rfl rfl rfl (src_slV ty22 hx zin0) bQ rfl (by decide)) ?_
     clear hF hS; rintro v_1_3 _ _ a w ⟨rfl, rfl⟩ hF hS
     refine ⟨⟨.inr (hS.k1 (sQ.n.n.n.n.n)), .inr hS.k0, .inr (hS.k1 (sQ.n.n.n.n.n)), .inr hS.k0, iQ, iQ, trivial⟩, ?_⟩
     refine gQ 7 rfl rfl hF hS rfl (ef_append ty22 ty3 3 rfl rfl rfl (src_slV ty22 hy zin0) bQ rfl (by decide)) ?_
     clear hF hS; rintro v_1_7 _ _ a w ⟨rfl, rfl⟩ hF hS
     refine ⟨⟨.inr (hS.k1 (sQ.n.n.n.n.n)), .inr hS.k0, iQ, iQ, iQ, iQ, trivial⟩, ?_⟩
     refine gQ 11 rfl rfl hF hS rfl (ef_append ty23 ty4 2 rfl rfl rfl (src_slV ty23 hz zin0) bQ rfl (by decide)) ?_
     clear hF hS; rintro v_1_11 _ _ a w ⟨rfl, rfl⟩ hF hS
     refine ⟨⟨iQ, iQ, iQ, iQ, iQ, iQ, trivial⟩, ?_⟩
     refine goW_take 12 _ rfl kQ rfl hF (hS.keep sQ (zQ.k.k.n.k)) (q_buildS1 ty67 3 kQ rfl rfl (oc_cons (row_one (hS.own _ (List.mem_of_getElem? (i := 0) rfl)).1) (oc_cons (row_one (hS.own _ (List.mem_of_getElem? (i := 3) rfl)).1) (oc_cons (row_one (hS.own _ (List.mem_of_getElem? (i := 2) rfl)).1) oc_nil))) rfl rfl) ?_
     clear hF; intro a hF
     refine gQ 14 rfl rfl hF hS rfl (ef_storeW ty67 1 rfl rfl rfl rfl bQ (oc_cons (row_one (hS.own _ (List.mem_of_getElem? (i := 0) rfl)).1) (oc_cons (row_one (hS.own _ (List.mem_of_getElem? (i := 3) rfl)).1) (oc_cons (row_one (hS.own _ (List.mem_of_getElem? (i := 2) rfl)).1) oc_nil))) bQ) ?_
     clear hF hS; rintro _ _ _ a w ⟨rfl, rfl, rfl⟩ hF hS
     refine ⟨⟨iQ, iQ, iQ, iQ, iQ, iQ, iQ, trivial⟩, ?_⟩
     exact goW_done kQ (j7_mk v_1_0 v_1_3 v_1_4 v_1_7 v_1_8 v_1_11 b_1_13 (trivial) (hF.sub (L' := [(1, _), (2, _), (6, _), (7, _)]) ⟨rfl, rfl, rfl, rfl, trivial⟩) (((hS.perm (.swap _ _ _)).perm (.cons _ (.swap _ _ _))).perm (.cons _ (.cons _ (.swap _ _ _)))))
   ·refine stepW_ef _ rfl rfl hF hS rfl (ef_allocA ty67) ?_
    clear hF hS; rintro _ _ _ a w ⟨b_1_13, rfl, rfl, rfl⟩ hF hS
    refine ⟨⟨.inr (hS.k1 (sQ.n.n.n)), .inr hS.k0, .inr (hS.k1 (sQ.n.n.n)), .inr hS.k0, .inr (hS.k1 (sQ.n.n.n)), .inr hS.k0, trivial⟩, ?_⟩
    refine goW_fork [0, 8] kQ rfl ⟨?_, ?_, trivial⟩
    ·refine stepW_ef _ rfl rfl hF hS rfl (ef_bslice0 ty22 ty3) ?_
     clear hF hS; rintro v_1_0 _ _ a w ⟨rfl, rfl⟩ hF hS
     refine ⟨⟨.inr (hS.k1 (sQ.n.n.n.n)), .inr hS.k0, .inr (hS.k1 (sQ.n.n.n.n)), .inr hS.k0, .inr (hS.k1 (sQ.n.n.n.n)), .inr hS.k0, trivial⟩, ?_⟩
     refine goW_fork [3, 8] kQ rfl ⟨?_, ?_, trivial⟩
     ·refine stepW_ef _ rfl rfl hF hS rfl (ef_append ty22 ty3 0 rfl rfl rfl (src_slV ty22 hx zin0) bQ rfl (by decide)) ?_
      clear hF hS; rintro v_1_3 _ _ a w ⟨rfl, rfl⟩ hF hS
      refine ⟨⟨.inr (hS.k1 (sQ.n.n.n.n)), .inr hS.k0, .inr (hS.k1 (sQ.n.n.n.n)), .inr hS.k0, iQ, iQ, trivial⟩, ?_⟩
      refine goW_fork [7, 8] kQ rfl ⟨?_, ?_, trivial⟩
      ·refine stepW_ef _ rfl rfl hF hS rfl (ef_append ty22 ty3 2 rfl rfl rfl (src_slV ty22 hy zin0) bQ rfl (by decide)) ?_
       clear hF hS; rintro v_1_7 _ _ a w ⟨rfl, rfl⟩ hF hS
       refine ⟨⟨.inr (hS.k1 (sQ.n.n.n.n)), .inr hS.k0, iQ, iQ, iQ, iQ, trivial⟩, ?_⟩
       refine gQ 8 rfl rfl hF hS rfl (ef_bslice0 ty23 ty4) ?_
       clear hF hS; rintro v_1_8 _ _ a w ⟨rfl, rfl⟩ hF hS
       refine ⟨⟨.inr (hS.k1 (sQ.n.n.n.n.n)), .inr hS.k0, iQ, iQ, iQ, iQ, trivial⟩, ?_⟩
       refine gQ 11 rfl rfl hF hS rfl (ef_append ty23 ty4 0 rfl rfl rfl (src_slV ty23 hz zin0) bQ rfl (by decide)) ?_
       clear hF hS; rintro v_1_11 _ _ a w ⟨rfl, rfl⟩ hF hS
       refine ⟨⟨iQ, iQ, iQ, iQ, iQ, iQ, trivial⟩, ?_⟩
       refine goW_take 12 _ rfl kQ rfl hF (hS.keep sQ (zQ.k.n.k.k)) (q_buildS1 ty67 3 kQ rfl rfl (oc_cons (row_one (hS.own _ (List.mem_of_getElem? (i := 1) rfl)).1) (oc_cons (row_one (hS.own _ (List.mem_of_getElem? (i := 3) rfl)).1) (oc_cons (row_one (hS.own _ (List.mem_of_getElem? (i := 0) rfl)).1) oc_nil))) rfl rfl) ?_
       clear hF; intro a hF
       refine gQ 14 rfl rfl hF hS rfl (ef_storeW ty67 2 rfl rfl rfl rfl bQ (oc_cons (row_one (hS.own _ (List.mem_of_getElem? (i := 1) rfl)).1) (oc_cons (row_one (hS.own _ (List.mem_of_getElem? (i := 3) rfl)).1) (oc_cons (row_one (hS.own _ (List.mem_of_getElem? (i := 0) rfl)).1) oc_nil))) bQ) ?_
       clear hF hS; rintro _ _ _ a w ⟨rfl, rfl, rfl⟩ hF hS
       refine ⟨⟨iQ, iQ, iQ, iQ, iQ, iQ, iQ, trivial⟩, ?_⟩
       exact goW_done kQ (j7_mk v_1_0 v_1_3 v_1_4 v_1_7 v_1_8 v_1_11 b_1_13 (trivial) (hF.sub (L' := [(1, _), (2, _), (6, _), (7, _)]) ⟨rfl, rfl, rfl, rfl, trivial⟩) (((hS.perm (.cons _ (.swap _ _ _))).perm (.swap _ _ _)).perm (.cons _ (.cons _ (.swap _ _ _)))))
      ·refine stepW_ef _ rfl rfl hF hS rfl (ef_bslice0 ty23 ty4) ?_
       clear hF hS; rintro v_1_8 _ _ a w ⟨rfl, rfl⟩ hF hS
       refine ⟨⟨.inr (hS.k1 (sQ.n.n.n.n.n)), .inr hS.k0, .inr (hS.k1 (sQ.n.n.n.n.n)), .inr hS.k0, iQ, iQ, trivial⟩, ?_⟩
       refine gQ 7 rfl rfl hF hS rfl (ef_append ty22 ty3 3 rfl rfl rfl (src_slV ty22 hy zin0) bQ rfl (by decide)) ?_
       clear hF hS; rintro v_1_7 _ _ a w ⟨rfl, rfl⟩ hF hS
       refine ⟨⟨.inr (hS.k1 (sQ.n.n.n.n.n)), .inr hS.k0, iQ, iQ, iQ, iQ, trivial⟩, ?_⟩
       refine gQ 11 rfl rfl hF hS rfl (ef_append ty23 ty4 0 rfl rfl rfl (src_slV ty23 hz zin0) bQ rfl (by decide)) ?_
       clear hF hS; rintro v_1_11 _ _ a w ⟨rfl, rfl⟩ hF hS
       refine ⟨⟨iQ, iQ, iQ, iQ, iQ, iQ, trivial⟩, ?_⟩
       refine goW_take 12 _ rfl kQ rfl hF (hS.keep sQ (zQ.k.n.k.k)) (q_buildS1 ty67 3 kQ rfl rfl (oc_cons (row_one (hS.own _ (List.mem_of_getElem? (i := 1) rfl)).1) (oc_cons (row_one (hS.own _ (List.mem_of_getElem? (i := 3) rfl)).1) (oc_cons (row_one (hS.own _ (List.mem_of_getElem? (i := 0) rfl)).1) oc_nil))) rfl rfl) ?_
       clear hF; intro a hF
       refine gQ 14 rfl rfl hF hS rfl (ef_storeW ty67 2 rfl rfl rfl rfl bQ (oc_cons (row_one (hS.own _ (List.mem_of_getElem? (i := 1) rfl)).1) (oc_cons (row_one (hS.own _ (List.mem_of_getElem? (i := 3) rfl)).1) (oc_cons (row_one (hS.own _ (List.mem_of_getElem? (i := 0) rfl)).1) oc_nil))) bQ) ?_
       clear hF hS; rintro _ _ _ a w ⟨rfl, rfl, rfl⟩ hF hS
       refine ⟨⟨iQ, iQ, iQ, iQ, iQ, iQ, iQ, trivial⟩, ?_⟩
       exact goW_done kQ (j7_mk v_1_0 v_1_3 v_1_4 v_1_7 v_1_8 v_1_11 b_1_13 (trivial) (hF.sub (L' := [(1, _), (2, _), (6, _), (7, _)]) ⟨rfl, rfl, rfl, rfl, trivial⟩) (((hS.perm (.cons _ (.swap _ _ _))).perm (.swap _ _ _)).perm (.cons _ (.cons _ (.swap _ _ _)))))
     ·refine stepW_ef _ rfl rfl hF hS rfl (ef_bslice0 ty23 ty4) ?_
      clear hF hS; rintro v_1_8 _ _ a w ⟨rfl, rfl⟩ hF hS
      refine ⟨⟨.inr (hS.k1 (sQ.n.n.n.n.n)), .inr hS.k0, .inr (hS.k1 (sQ.n.n.n.n.n)), .inr hS.k0, .inr (hS.k1 (sQ.n.n.n.n.n)), .inr hS.k0, trivial⟩, ?_⟩
      refine gQ 3 rfl rfl hF hS rfl (ef_append ty22 ty3 1 rfl rfl rfl (src_slV ty22 hx zin0) bQ rfl (by decide)) ?_
      clear hF hS; rintro v_1_3 _ _ a w ⟨rfl, rfl⟩ hF hS
      refine ⟨⟨.inr (hS.k1 (sQ.n.n.n.n.n)), .inr hS.k0, .inr (hS.k1 (sQ.n.n.n.n.n)), .inr hS.k0, iQ, iQ, trivial⟩, ?_⟩
      refine gQ 7 rfl rfl hF hS rfl (ef_append ty22 ty3 3 rfl rfl rfl (src_slV ty22 hy zin0) bQ rfl (by decide)) ?_
      clear hF hS; rintro v_1_7 _ _ a w ⟨rfl, rfl⟩ hF hS
      refine ⟨⟨.inr (hS.k1 (sQ.n.n.n.n.n)), .inr hS.k0, iQ, iQ, iQ, iQ, trivial⟩, ?_⟩
      refine gQ 11 rfl rfl hF hS rfl (ef_append ty23 ty4 0 rfl rfl rfl (src_slV ty23 hz zin0) bQ rfl (by decide)) ?_
      clear hF hS; rintro v_1_11 _ _ a w ⟨rfl, rfl⟩ hF hS
      refine ⟨⟨iQ, iQ, iQ, iQ, iQ, iQ, trivial⟩, ?_⟩
      refine goW_take 12 _ rfl kQ rfl hF (hS.keep sQ (zQ.k.n.k.k)) (q_buildS1 ty67 3 kQ rfl rfl (oc_cons (row_one (hS.own _ (List.mem_of_getElem? (i := 1) rfl)).1) (oc_cons (row_one (hS.own _ (List.mem_of_getElem? (i := 3) rfl)).1) (oc_cons (row_one (hS.own _ (List.mem_of_getElem? (i := 0) rfl)).1) oc_nil))) rfl rfl) ?_
      clear hF; intro a hF
      refine gQ 14 rfl rfl hF hS rfl (ef_storeW ty67 2 rfl rfl rfl rfl bQ (oc_cons (row_one (hS.own _ (List.mem_of_getElem? (i := 1) rfl)).1) (oc_cons (row_one (hS.own _ (List.mem_of_getElem? (i := 3) rfl)).1) (oc_cons (row_one (hS.own _ (List.mem_of_getElem? (i := 0) rfl)).1) oc_nil))) bQ) ?_
      clear hF hS; rintro _ _ _ a w ⟨rfl, rfl, rfl⟩ hF hS
      refine ⟨⟨iQ, iQ, iQ, iQ, iQ, iQ, iQ, trivial⟩, ?_⟩
      exact goW_done kQ (j7_mk v_1_0 v_1_3 v_1_4 v_1_7 v_1_8 v_1_11 b_1_13 (trivial) (hF.sub (L' := [(1, _), (2, _), (6, _), (7, _)]) ⟨rfl, rfl, rfl, rfl, trivial⟩) (((hS.perm (.cons _ (.swap _ _ _))).perm (.swap _ _ _)).perm (.cons _ (.cons _ (.swap _ _ _)))))
    ·refine stepW_ef _ rfl rfl hF hS rfl (ef_bslice0 ty23 ty4) ?_
     clear hF hS; rintro v_1_8 _ _ a w ⟨rfl, rfl⟩ hF hS
     refine ⟨⟨.inr (hS.k1 (sQ.n.n.n.n)), .inr hS.k0, .inr (hS.k1 (sQ.n.n.n.n)), .inr hS.k0, .inr (hS.k1 (sQ.n.n.n.n)), .inr hS.k0, trivial⟩, ?_⟩
     refine gQ 0 rfl rfl hF hS rfl (ef_bslice0 ty22 ty3) ?_
     clear hF hS; rintro v_1_0 _ _ a w ⟨rfl, rfl⟩ hF hS
     refine ⟨⟨.inr (hS.k1 (sQ.n.n.n.n.n)), .inr hS.k0, .inr (hS.k1 (sQ.n.n.n.n.n)), .inr hS.k0, .inr (hS.k1 (sQ.n.n.n.n.n)), .inr hS.k0, trivial⟩, ?_⟩
     refine gQ 3 rfl rfl hF hS rfl (ef_append ty22 ty3 0 rfl rfl rfl (src_slV ty22 hx zin0) bQ rfl (by decide)) ?_
     clear hF hS; rintro v_1_3 _ _ a w ⟨rfl, rfl⟩ hF hS
     refine ⟨⟨.inr (hS.k1 (sQ.n.n.n.n.n)), .inr hS.k0, .inr (hS.k1 (sQ.n.n.n.n.n)), .inr hS.k0, iQ, iQ, trivial⟩, ?_⟩
     refine gQ 7 rfl rfl hF hS rfl (ef_append ty22 ty3 3 rfl rfl rfl (src_slV ty22 hy zin0) bQ rfl (by decide)) ?_
     clear hF hS; rintro v_1_7 _ _ a w ⟨rfl, rfl⟩ hF hS
     refine ⟨⟨.inr (hS.k1 (sQ.n.n.n.n.n)), .inr hS.k0, iQ, iQ, iQ, iQ, trivial⟩, ?_⟩
     refine gQ 11 rfl rfl hF hS rfl (ef_append ty23 ty4 1 rfl rfl rfl (src_slV ty23 hz zin0) bQ rfl (by decide)) ?_
     clear hF hS; rintro v_1_11 _ _ a w ⟨rfl, rfl⟩ hF hS
     refine ⟨⟨iQ, iQ, iQ, iQ, iQ, iQ, trivial⟩, ?_⟩
     refine goW_take 12 _ rfl kQ rfl hF (hS.keep sQ (zQ.k.n.k.k)) (q_buildS1 ty67 3 kQ rfl rfl (oc_cons (row_one (hS.own _ (List.mem_of_getElem? (i := 0) rfl)).1) (oc_cons (row_one (hS.own _ (List.mem_of_getElem? (i := 3) rfl)).1) (oc_cons (row_one (hS.own _ (List.mem_of_getElem? (i := 1) rfl)).1) oc_nil))) rfl rfl) ?_
     clear hF; intro a hF
     refine gQ 14 rfl rfl hF hS rfl (ef_storeW ty67 2 rfl rfl rfl rfl bQ (oc_cons (row_one (hS.own _ (List.mem_of_getElem? (i := 0) rfl)).1) (oc_cons (row_one (hS.own _ (List.mem_of_getElem? (i := 3) rfl)).1) (oc_cons (row_one (hS.own _ (List.mem_of_getElem? (i := 1) rfl)).1) oc_nil))) bQ) ?_
     clear hF hS; rintro _ _ _ a w ⟨rfl, rfl, rfl⟩ hF hS
     refine ⟨⟨iQ, iQ, iQ, iQ, iQ, iQ, iQ, trivial⟩, ?_⟩
     exact goW_done kQ (j7_mk v_1_0 v_1_3 v_1_4 v_1_7 v_1_8 v_1_11 b_1_13 (trivial) (hF.sub (L' := [(1, _), (2, _), (6, _), (7, _)]) ⟨rfl, rfl, rfl, rfl, trivial⟩) ((((hS.perm (.cons _ (.swap _ _ _))).perm (.swap _ _ _)).perm (.cons _ (.swap _ _ _))).perm (.cons _ (.cons _ (.swap _ _ _)))))
  ·refine stepW_ef _ rfl rfl hF hS rfl (ef_bslice0 ty23 ty4) ?_
   clear hF hS; rintro v_1_8 _ _ a w ⟨rfl, rfl⟩ hF hS
   refine ⟨⟨.inr (hS.k1 (sQ.n.n)), .inr hS.k0, .inr (hS.k1 (sQ.n.n)), .inr hS.k0, .inr (hS.k1 (sQ.n.n)), .inr hS.k0, trivial⟩, ?_⟩
   refine goW_fork [0, 4, 13] kQ rfl ⟨?_, ?_, ?_, trivial⟩
   ·refine stepW_ef _ rfl rfl hF hS rfl (ef_bslice0 ty22 ty3) ?_
    clear hF hS; rintro v_1_0 _ _ a w ⟨rfl, rfl⟩ hF hS
    refine ⟨⟨.inr (hS.k1 (sQ.n.n.n)), .inr hS.k0, .inr (hS.k1 (sQ.n.n.n)), .inr hS.k0, .inr (hS.k1 (sQ.n.n.n)), .inr hS.k0, trivial⟩, ?_⟩
    refine goW_fork [3, 4, 13] kQ rfl ⟨?_, ?_, ?_, trivial⟩
    ·refine stepW_ef _ rfl rfl hF hS rfl (ef_append ty22 ty3 0 rfl rfl rfl (src_slV ty22 hx zin0) bQ rfl (by decide)) ?_
     clear hF hS; rintro v_1_3 _ _ a w ⟨rfl, rfl⟩ hF hS
     refine ⟨⟨.inr (hS.k1 (sQ.n.n.n)), .inr hS.k0, .inr (hS.k1 (sQ.n.n.n)), .inr hS.k0, iQ, iQ, trivial⟩, ?_⟩
     refine goW_fork [4, 13] kQ rfl ⟨?_, ?_, trivial⟩
     ·refine stepW_ef _ rfl rfl hF hS rfl (ef_bslice0 ty22 ty3) ?_
      clear hF hS; rintro v_1_4 _ _ a w ⟨rfl, rfl⟩ hF hS
      refine ⟨⟨.inr (hS.k1 (sQ.n.n.n.n)), .inr hS.k0, .inr (hS.k1 (sQ.n.n.n.n)), .inr hS.k0, iQ, iQ, trivial⟩, ?_⟩
      refine goW_fork [7, 13] kQ rfl ⟨?_, ?_, trivial⟩
      ·refine stepW_ef _ rfl rfl hF hS rfl (ef_append ty22 ty3 0 rfl rfl rfl (src_slV ty22 hy zin0) bQ rfl (by decide)) ?_
       clear hF hS; rintro v_1_7 _ _ a w ⟨rfl, rfl⟩ hF hS
       refine ⟨⟨.inr (hS.k1 (sQ.n.n.n.n)), .inr hS.k0, iQ, iQ, iQ, iQ, trivial⟩, ?_⟩
       refine goW_fork [11, 13] kQ rfl ⟨?_, ?_, trivial⟩
       ·refine stepW_ef _ rfl rfl hF hS rfl (ef_append ty23 ty4 2 rfl rfl rfl (src_slV ty23 hz zin0) bQ rfl (by decide)) ?_
        clear hF hS; rintro v_1_11 _ _ a w ⟨rfl, rfl⟩ hF hS
        refine ⟨⟨iQ, iQ, iQ, iQ, iQ, iQ, trivial⟩, ?_⟩
        refine goW_take 12 _ rfl kQ rfl hF (hS.keep sQ (zQ.k.k.k)) (q_buildS1 ty67 3 kQ rfl rfl (oc_cons (row_one (hS.own _ (List.mem_of_getElem? (i := 1) rfl)).1) (oc_cons (row_one (hS.own _ (List.mem_of_getElem? (i := 0) rfl)).1) (oc_cons (row_one (hS.own _ (List.mem_of_getElem? (i := 2) rfl)).1) oc_nil))) rfl rfl) ?_
        clear hF; intro a hF
        refine gQ 13 rfl rfl hF hS rfl (ef_allocA ty67) ?_
        clear hF hS; rintro _ _ _ a w ⟨b_1_13, rfl, rfl, rfl⟩ hF hS
        refine ⟨⟨.inr (hS.k1 (zQ.k.k.k.n)), iQ, iQ, iQ, iQ, iQ, iQ, trivial⟩, ?_⟩
        refine gQ 14 rfl rfl hF hS rfl (ef_storeW ty67 0 rfl rfl rfl rfl bQ (oc_cons (row_one (hS.own _ (List.mem_of_getElem? (i := 2) rfl)).1) (oc_cons (row_one (hS.own _ (List.mem_of_getElem? (i := 1) rfl)).1) (oc_cons (row_one (hS.own _ (List.mem_of_getElem? (i := 3) rfl)).1) oc_nil))) bQ) ?_
        clear hF hS; rintro _ _ _ a w ⟨rfl, rfl, rfl⟩ hF hS
        refine ⟨⟨iQ, iQ, iQ, iQ, iQ, iQ, iQ, trivial⟩, ?_⟩
        exact goW_done kQ (j7_mk v_1_0 v_1_3 v_1_4 v_1_7 v_1_8 v_1_11 b_1_13 (trivial) (hF.sub (L' := [(1, _), (2, _), (6, _), (7, _)]) ⟨rfl, rfl, rfl, rfl, trivial⟩) ((hS.perm (.cons _ (.cons _ (.swap _ _ _)))).perm (.cons _ (.swap _ _ _))))
       ·refine stepW_ef _ rfl rfl hF hS rfl (ef_allocA ty67) ?_
        clear hF hS; rintro _ _ _ a w ⟨b_1_13, rfl, rfl, rfl⟩ hF hS
        refine ⟨⟨.inr (hS.k1 (sQ.n.n.n.n.n)), .inr hS.k0, iQ, iQ, iQ, iQ, trivial⟩, ?_⟩
        refine gQ 11 rfl rfl hF hS rfl (ef_append ty23 ty4 3 rfl rfl rfl (src_slV ty23 hz zin0) bQ rfl (by decide)) ?_
        clear hF hS; rintro v_1_11 _ _ a w ⟨rfl, rfl⟩ hF hS
        refine ⟨⟨iQ, iQ, iQ, iQ, iQ, iQ, trivial⟩, ?_⟩
        refine goW_take 12 _ rfl kQ rfl hF (hS.keep sQ (zQ.k.k.k.n)) (q_buildS1 ty67 3 kQ rfl rfl (oc_cons (row_one (hS.own _ (List.mem_of_getElem? (i := 2) rfl)).1) (oc_cons (row_one (hS.own _ (List.mem_of_getElem? (i := 1) rfl)).1) (oc_cons (row_one (hS.own _ (List.mem_of_getElem? (i := 3) rfl)).1) oc_nil))) rfl rfl) ?_
        clear hF; intro a hF
        refine gQ 14 rfl rfl hF hS rfl (ef_storeW ty67 0 rfl rfl rfl rfl bQ (oc_cons (row_one (hS.own _ (List.mem_of_getElem? (i := 2) rfl)).1) (oc_cons (row_one (hS.own _ (List.mem_of_getElem? (i := 1) rfl)).1) (oc_cons (row_one (hS.own _ (List.mem_of_getElem? (i := 3) rfl)).1) oc_nil))) bQ) ?_
        clear hF hS; rintro _ _ _ a w ⟨rfl, rfl, rfl⟩ hF hS
        refine ⟨⟨iQ, iQ, iQ, iQ, iQ, iQ, iQ, trivial⟩, ?_⟩
        exact goW_done kQ (j7_mk v_1_0 v_1_3 v_1_4 v_1_7 v_1_8 v_1_11 b_1_13 (trivial) (hF.sub (L' := [(1, _), (2, _), (6, _), (7, _)]) ⟨rfl, rfl, rfl, rfl, trivial⟩) ((hS.perm (.cons _ (.cons _ (.swap _ _ _)))).perm (.cons _ (.swap _ _ _))))
      ·refine stepW_ef _ rfl rfl hF hS rfl (ef_allocA ty67) ?_
       clear hF hS; rintro _ _ _ a w ⟨b_1_13, rfl, rfl, rfl⟩ hF hS
       refine ⟨⟨.inr (hS.k1 (sQ.n.n.n.n.n)), .inr hS.k0, .inr (hS.k1 (sQ.n.n.n.n.n)), .inr hS.k0, iQ, iQ, trivial⟩, ?_⟩
       refine gQ 7 rfl rfl hF hS rfl (ef_append ty22 ty3 1 rfl rfl rfl (src_slV ty22 hy zin0) bQ rfl (by decide)) ?_
       clear hF hS; rintro v_1_7 _ _ a w ⟨rfl, rfl⟩ hF hS
       refine ⟨⟨.inr (hS.k1 (sQ.n.n.n.n.n)), .inr hS.k0, iQ, iQ, iQ, iQ, trivial⟩, ?_⟩
       refine gQ 11 rfl rfl hF hS rfl (ef_append ty23 ty4 3 rfl rfl rfl (src_slV ty23 hz zin0) bQ rfl (by decide)) ?_
       clear hF hS; rintro v_1_11 _ _ a w ⟨rfl, rfl⟩ hF hS
       refine ⟨⟨iQ, iQ, iQ, iQ, iQ, iQ, trivial⟩, ?_⟩
       refine goW_take 12 _ rfl kQ rfl hF (hS.keep sQ (zQ.k.k.k.n)) (q_buildS1 ty67 3 kQ rfl rfl (oc_cons (row_one (hS.own _ (List.mem_of_getElem? (i := 2) rfl)).1) (oc_cons (row_one (hS.own _ (List.mem_of_getElem? (i := 1) rfl)).1) (oc_cons (row_one (hS.own _ (List.mem_of_getElem? (i := 3) rfl)).1) oc_nil))) rfl rfl) ?_
       clear hF; intro a hF
       refine gQ 14 rfl rfl hF hS rfl (ef_storeW ty67 0 rfl rfl rfl rfl bQ (oc_cons (row_one (hS.own _ (List.mem_of_getElem? (i := 2) rfl)).1) (oc_cons (row_one (hS.own _ (List.mem_of_getElem? (i := 1) rfl)).1) (oc_cons (row_one (hS.own _ (List.mem_of_getElem? (i := 3) rfl)).1) oc_nil))) bQ) ?_
       clear hF hS; rintro _ _ _ a w ⟨rfl, rfl, rfl⟩ hF hS
       refine ⟨⟨iQ, iQ, iQ, iQ, iQ, iQ, iQ, trivial⟩, ?_⟩
       exact goW_done kQ (j7_mk v_1_0 v_1_3 v_1_4 v_1_7 v_1_8 v_1_11 b_1_13 (trivial) (hF.sub (L' := [(1, _), (2, _), (6, _), (7, _)]) ⟨rfl, rfl, rfl, rfl, trivial⟩) ((hS.perm (.cons _ (.cons _ (.swap _ _ _)))).perm (.cons _ (.swap _ _ _))))
     ·refine stepW_ef _ rfl rfl hF hS rfl (ef_allocA ty67) ?_
      clear hF hS; rintro _ _ _ a w ⟨b_1_13, rfl, rfl, rfl⟩ hF hS
      refine ⟨⟨.inr (hS.k1 (sQ.n.n.n.n)), .inr hS.k0, .inr (hS.k1 (sQ.n.n.n.n)), .inr hS.k0, iQ, iQ, trivial⟩, ?_⟩
      refine gQ 4 rfl rfl hF hS rfl (ef_bslice0 ty22 ty3) ?_
      clear hF hS; rintro v_1_4 _ _ a w ⟨rfl, rfl⟩ hF hS
      refine ⟨⟨.inr (hS.k1 (sQ.n.n.n.n.n)), .inr hS.k0, .inr (hS.k1 (sQ.n.n.n.n.n)), .inr hS.k0, iQ, iQ, trivial⟩, ?_⟩
      refine gQ 7 rfl rfl hF hS rfl (ef_append ty22 ty3 0 rfl rfl rfl (src_slV ty22 hy zin0) bQ rfl (by decide)) ?_
      clear hF hS; rintro v_1_7 _ _ a w ⟨rfl, rfl⟩ hF hS
      refine ⟨⟨.inr (hS.k1 (sQ.n.n.n.n.n)), .inr hS.k0, iQ, iQ, iQ, iQ, trivial⟩, ?_⟩
      refine gQ 11 rfl rfl hF hS rfl (ef_append ty23 ty4 3 rfl rfl rfl (src_slV ty23 hz zin0) bQ rfl (by decide)) ?_
      clear hF hS; rintro v_1_11 _ _ a w ⟨rfl, rfl⟩ hF hS
      refine ⟨⟨iQ, iQ, iQ, iQ, iQ, iQ, trivial⟩, ?_⟩
      refine goW_take 12 _ rfl kQ rfl hF (hS.keep sQ (zQ.k.k.n.k)) (q_buildS1 ty67 3 kQ rfl rfl (oc_cons (row_one (hS.own _ (List.mem_of_getElem? (i := 2) rfl)).1) (oc_cons (row_one (hS.own _ (List.mem_of_getElem? (i := 0) rfl)).1) (oc_cons (row_one (hS.own _ (List.mem_of_getElem? (i := 3) rfl)).1) oc_nil))) rfl rfl) ?_
      clear hF; intro a hF
      refine gQ 14 rfl rfl hF hS rfl (ef_storeW ty67 1 rfl rfl rfl rfl bQ (oc_cons (row_one (hS.own _ (List.mem_of_getElem? (i := 2) rfl)).1) (oc_cons (row_one (hS.own _ (List.mem_of_getElem? (i := 0) rfl)).1) (oc_cons (row_one (hS.own _ (List.mem_of_getElem? (i := 3) rfl)).1) oc_nil))) bQ) ?_
      clear hF hS; rintro _ _ _ a w ⟨rfl, rfl, rfl⟩ hF hS
      refine ⟨⟨iQ, iQ, iQ, iQ, iQ, iQ, iQ, trivial⟩, ?_⟩
      exact goW_done kQ (j7_mk v_1_0 v_1_3 v_1_4 v_1_7 v_1_8 v_1_11 b_1_13 (trivial) (hF.sub (L' := [(1, _), (2, _), (6, _), (7, _)]) ⟨rfl, rfl, rfl, rfl, trivial⟩) (((hS.perm (.swap _ _ _)).perm (.cons _ (.cons _ (.swap _ _ _)))).perm (.cons _ (.swap _ _ _))))
    ·refine stepW_ef _ rfl rfl hF hS rfl (ef_bslice0 ty22 ty3) ?_
     clear hF hS; rintro v_1_4 _ _ a w ⟨rfl, rfl⟩ hF hS
     refine ⟨⟨.inr (hS.k1 (sQ.n.n.n.n)), .inr hS.k0, .inr (hS.k1 (sQ.n.n.n.n)), .inr hS.k0, .inr (hS.k1 (sQ.n.n.n.n)), .inr hS.k0, trivial⟩, ?_⟩
     refine goW_fork [3, 13] kQ rfl ⟨?_, ?_, trivial⟩
     ·refine stepW_ef _ rfl rfl hF hS rfl (ef_append ty22 ty3 1 rfl rfl rfl (src_slV ty22 hx zin0) bQ rfl (by decide)) ?_
      clear hF hS; rintro v_1_3 _ _ a w ⟨rfl, rfl⟩ hF hS
      refine ⟨⟨.inr (hS.k1 (sQ.n.n.n.n)), .inr hS.k0, .inr (hS.k1 (sQ.n.n.n.n)), .inr hS.k0, iQ, iQ, trivial⟩, ?_⟩
      refine goW_fork [7, 13] kQ rfl ⟨?_, ?_, trivial⟩
      ·refine stepW_ef _ rfl rfl hF hS rfl (ef_append ty22 ty3 0 rfl rfl rfl (src_slV ty22 hy zin0) bQ rfl (by decide)) ?_
       clear hF hS; rintro v_1_7 _ _ a w ⟨rfl, rfl⟩ hF hS
       refine ⟨⟨.inr (hS.k1 (sQ.n.n.n.n)), .inr hS.k0, iQ, iQ, iQ, iQ, trivial⟩, ?_⟩
       refine goW_fork [11, 13] kQ rfl ⟨?_, ?_, trivial⟩
       ·refine stepW_ef _ rfl rfl hF hS rfl (ef_append ty23 ty4 2 rfl rfl rfl (src_slV ty23 hz zin0) bQ rfl (by decide)) ?_
        clear hF hS; rintro v_1_11 _ _ a w ⟨rfl, rfl⟩ hF hS
        refine ⟨⟨iQ, iQ, iQ, iQ, iQ, iQ, trivial⟩, ?_⟩
        refine goW_take 12 _ rfl kQ rfl hF (hS.keep sQ (zQ.k.k.k)) (q_buildS1 ty67 3 kQ rfl rfl (oc_cons (row_one (hS.own _ (List.mem_of_getElem? (i := 1) rfl)).1) (oc_cons (row_one (hS.own _ (List.mem_of_getElem? (i := 0) rfl)).1) (oc_cons (row_one (hS.own _ (List.mem_of_getElem? (i := 2) rfl)).1) oc_nil))) rfl rfl) ?_
        clear hF; intro a hF
        refine gQ 13 rfl rfl hF hS rfl (ef_allocA ty67) ?_
        clear hF hS; rintro _ _ _ a w ⟨b_1_13, rfl, rfl, rfl⟩ hF hS
        refine ⟨⟨.inr (hS.k1 (zQ.k.k.k.n)), iQ, iQ, iQ, iQ, iQ, iQ, trivial⟩, ?_⟩
        refine gQ 14 rfl rfl hF hS rfl (ef_storeW ty67 0 rfl rfl rfl rfl bQ (oc_cons (row_one (hS.own _ (List.mem_of_getElem? (i := 2) rfl)).1) (oc_cons (row_one (hS.own _ (List.mem_of_getElem? (i := 1) rfl)).1) (oc_cons (row_one (hS.own _ (List.mem_of_getElem? (i := 3) rfl)).1) oc_nil))) bQ) ?_
        clear hF hS; rintro _ _ _ a w ⟨rfl, rfl, rfl⟩ hF hS
        refine ⟨⟨iQ, iQ, iQ, iQ, iQ, iQ, iQ, trivial⟩, ?_⟩
        exact goW_done kQ (j7_mk v_1_0 v_1_3 v_1_4 v_1_7 v_1_8 v_1_11 b_1_13 (trivial) (hF.sub (L' := [(1, _), (2, _), (6, _), (7, _)]) ⟨rfl, rfl, rfl, rfl, trivial⟩) ((hS.perm (.cons _ (.cons _ (.swap _ _ _)))).perm (.cons _ (.swap _ _ _))))
       ·refine stepW_ef _ rfl rfl hF hS rfl (ef_allocA ty67) ?_
        clear hF hS; rintro _ _ _ a w ⟨b_1_13, rfl, rfl, rfl⟩ hF hS
        refine ⟨⟨.inr (hS.k1 (sQ.n.n.n.n.n)), .inr hS.k0, iQ, iQ, iQ, iQ, trivial⟩, ?_⟩
        refine gQ 11 rfl rfl hF hS rfl (ef_append ty23 ty4 3 rfl rfl rfl (src_slV ty23 hz zin0) bQ rfl (by decide)) ?_
        clear hF hS; rintro v_1_11 _ _ a w ⟨rfl, rfl⟩ hF hS
        refine ⟨⟨iQ, iQ, iQ, iQ, iQ, iQ, trivial⟩, ?_⟩
        refine goW_take 12 _ rfl kQ rfl hF (hS.keep sQ (zQ.k.k.k.n)) (q_buildS1 ty67 3 kQ rfl rfl (oc_cons (row_one (hS.own _ (List.mem_of_getElem? (i := 2) rfl)).1) (oc_cons (row_one (hS.own _ (List.mem_of_getElem? (i := 1) rfl)).1) (oc_cons (row_one (hS.own _ (List.mem_of_getElem? (i := 3) rfl)).1) oc_nil))) rfl rfl) ?_
        clear hF; intro a hF
        refine gQ 14 rfl rfl hF hS rfl (ef_storeW ty67 0 rfl rfl rfl rfl bQ (oc_cons (row_one (hS.own _ (List.mem_of_getElem? (i := 2) rfl)).1) (oc_cons (row_one (hS.own _ (List.mem_of_getElem? (i := 1) rfl)).1) (oc_cons (row_one (hS.own _ (List.mem_of_getElem? (i := 3) rfl)).1) oc_nil))) bQ) ?_
        clear hF hS; rintro _ _ _ a w ⟨rfl, rfl, rfl⟩ hF hS
        refine ⟨⟨iQ, iQ, iQ, iQ, iQ, iQ, iQ, trivial⟩, ?_⟩
        exact goW_done kQ (j7_mk v_1_0 v_1_3 v_1_4 v_1_7 v_1_8 v_1_11 b_1_13 (trivial) (hF.sub (L' := [(1, _), (2, _), (6, _), (7, _)]) ⟨rfl, rfl, rfl, rfl, trivial⟩) ((hS.perm (.cons _ (.cons _ (.swap _ _ _)))).perm (.cons _ (.swap _ _ _))))
      ·refine stepW_ef _ rfl rfl hF hS rfl (ef_allocA ty67) ?_
       clear hF hS; rintro _ _ _ a w ⟨b_1_13, rfl, rfl, rfl⟩ hF hS
       refine ⟨⟨.inr (hS.k1 (sQ.n.n.n.n.n)), .inr hS.k0, .inr (hS.k1 (sQ.n.n.n.n.n)), .inr hS.k0, iQ, iQ, trivial⟩, ?_⟩
       refine gQ 7 rfl rfl hF hS rfl (ef_append ty22 ty3 1 rfl rfl rfl (src_slV ty22 hy zin0) bQ rfl (by decide)) ?_
       clear hF hS; rintro v_1_7 _ _ a w ⟨rfl, rfl⟩ hF hS
       refine ⟨⟨.inr (hS.k1 (sQ.n.n.n.n.n)), .inr hS.k0, iQ, iQ, iQ, iQ, trivial⟩, ?_⟩
       refine gQ 11 rfl rfl hF hS rfl (ef_append ty23 ty4 3 rfl rfl rfl (src_slV ty23 hz zin0) bQ rfl (by decide)) ?_
       clear hF hS; rintro v_1_11 _ _ a w ⟨rfl, rfl⟩ hF hS
       refine ⟨⟨iQ, iQ, iQ, iQ, iQ, iQ, trivial⟩, ?_⟩
       refine goW_take 12 _ rfl kQ rfl hF (hS.keep sQ (zQ.k.k.k.n)) (q_buildS1 ty67 3 kQ rfl rfl (oc_cons (row_one (hS.own _ (List.mem_of_getElem? (i := 2) rfl)).1) (oc_cons (row_one (hS.own _ (List.mem_of_getElem? (i := 1) rfl)).1) (oc_cons (row_one (hS.own _ (List.mem_of_getElem? (i := 3) rfl)).1) oc_nil))) rfl rfl) ?_
       clear hF; intro a hF
       refine gQ 14 rfl rfl hF hS rfl (ef_storeW ty67 0 rfl rfl rfl rfl bQ (oc_cons (row_one (hS.own _ (List.mem_of_getElem? (i := 2) rfl)).1) (oc_cons (row_one (hS.own _ (List.mem_of_getElem? (i := 1) rfl)).1) (oc_cons (row_one (hS.own _ (List.mem_of_getElem? (i := 3) rfl)).1) oc_nil))) bQ) ?_
       clear hF hS; rintro _ _ _ a w ⟨rfl, rfl, rfl⟩ hF hS
       refine ⟨⟨iQ, iQ, iQ, iQ, iQ, iQ, iQ, trivial⟩, ?_⟩
       exact goW_done kQ (j7_mk v_1_0 v_1_3 v_1_4 v_1_7 v_1_8 v_1_11 b_1_13 (trivial) (hF.sub (L' := [(1, _), (2, _), (6, _), (7, _)]) ⟨rfl, rfl, rfl, rfl, trivial⟩) ((hS.perm (.cons _ (.cons _ (.swap _ _ _)))).perm (.cons _ (.swap _ _ _))))
     ·refine stepW_ef _ rfl rfl hF hS rfl (ef_allocA ty67) ?_
      clear hF hS; rintro _ _ _ a w ⟨b_1_13, rfl, rfl, rfl⟩ hF hS
      refine ⟨⟨.inr (hS.k1 (sQ.n.n.n.n.n)), .inr hS.k0, .inr (hS.k1 (sQ.n.n.n.n.n)), .inr hS.k0, .inr (hS.k1 (sQ.n.n.n.n.n)), .inr hS.k0, trivial⟩, ?_⟩
      refine gQ 3 rfl rfl hF hS rfl (ef_append ty22 ty3 2 rfl rfl rfl (src_slV ty22 hx zin0) bQ rfl (by decide)) ?_
      clear hF hS; rintro v_1_3 _ _ a w ⟨rfl, rfl⟩ hF hS
      refine ⟨⟨.inr (hS.k1 (sQ.n.n.n.n.n)), .inr hS.k0, .inr (hS.k1 (sQ.n.n.n.n.n)), .inr hS.k0, iQ, iQ, trivial⟩, ?_⟩
      refine gQ 7 rfl rfl hF hS rfl (ef_append ty22 ty3 1 rfl rfl rfl (src_slV ty22 hy zin0) bQ rfl (by decide)) ?_
      clear hF hS; rintro v_1_7 _ _ a w ⟨rfl, rfl⟩ hF hS
      refine ⟨⟨.inr (hS.k1 (sQ.n.n.n.n.n)), .inr hS.k0, iQ, iQ, iQ, iQ, trivial⟩, ?_⟩
      refine gQ 11 rfl rfl hF hS rfl (ef_append ty23 ty4 3 rfl rfl rfl (src_slV ty23 hz zin0) bQ rfl (by decide)) ?_
      clear hF hS; rintro v_1_11 _ _ a w ⟨rfl, rfl⟩ hF hS
      refine ⟨⟨iQ, iQ, iQ, iQ, iQ, iQ, trivial⟩, ?_⟩
      refine goW_take 12 _ rfl kQ rfl hF (hS.keep sQ (zQ.k.k.k.n)) (q_buildS1 ty67 3 kQ rfl rfl (oc_cons (row_one (hS.own _ (List.mem_of_getElem? (i := 2) rfl)).1) (oc_cons (row_one (hS.own _ (List.mem_of_getElem? (i := 1) rfl)).1) (oc_cons (row_one (hS.own _ (List.mem_of_getElem? (i := 3) rfl)).1) oc_nil))) rfl rfl) ?_
      clear hF; intro a hF
      refine gQ 14 rfl rfl hF hS rfl (ef_storeW ty67 0 rfl rfl rfl rfl bQ (oc_cons (row_one (hS.own _ (List.mem_of_getElem? (i := 2) rfl)).1) (oc_cons (row_one (hS.own _ (List.mem_of_getElem? (i := 1) rfl)).1) (oc_cons (row_one (hS.own _ (List.mem_of_getElem? (i := 3) rfl)).1) oc_nil))) bQ) ?_
      clear hF hS; rintro _ _ _ a w ⟨rfl, rfl, rfl⟩ hF hS
      refine ⟨⟨iQ, iQ, iQ, iQ, iQ, iQ, iQ, trivial⟩, ?_⟩
      exact goW_done kQ (j7_mk v_1_0 v_1_3 v_1_4 v_1_7 v_1_8 v_1_11 b_1_13 (trivial) (hF.sub (L' := [(1, _), (2, _), (6, _), (7, _)]) ⟨rfl, rfl, rfl, rfl, trivial⟩) ((hS.perm (.cons _ (.cons _ (.swap _ _ _)))).perm (.cons _ (.swap _ _ _))))
    ·refine stepW_ef _ rfl rfl hF hS rfl (ef_allocA ty67) ?_
     clear hF hS; rintro _ _ _ a w ⟨b_1_13, rfl, rfl, rfl⟩ hF hS
     refine ⟨⟨.inr (hS.k1 (sQ.n.n.n.n)), .inr hS.k0, .inr (hS.k1 (sQ.n.n.n.n)), .inr hS.k0, .inr (hS.k1 (sQ.n.n.n.n)), .inr hS.k0, trivial⟩, ?_⟩
     refine goW_fork [3, 4] kQ rfl ⟨?_, ?_, trivial⟩
     ·refine stepW_ef _ rfl rfl hF hS rfl (ef_append ty22 ty3 1 rfl rfl rfl (src_slV ty22 hx zin0) bQ rfl (by decide)) ?_
      clear hF hS; rintro v_1_3 _ _ a w ⟨rfl, rfl⟩ hF hS
      refine ⟨⟨.inr (hS.k1 (sQ.n.n.n.n)), .inr hS.k0, .inr (hS.k1 (sQ.n.n.n.n)), .inr hS.k0, iQ, iQ, trivial⟩, ?_⟩
      refine gQ 4 rfl rfl hF hS rfl (ef_bslice0 ty22 ty3) ?_
      clear hF hS; rintro v_1_4 _ _ a w ⟨rfl, rfl⟩ hF hS
      refine ⟨⟨.inr (hS.k1 (sQ.n.n.n.n.n)), .inr hS.k0, .inr (hS.k1 (sQ.n.n.n.n.n)), .inr hS.k0, iQ, iQ, trivial⟩, ?_⟩
      refine gQ 7 rfl rfl hF hS rfl (ef_append ty22 ty3 0 rfl rfl rfl (src_slV ty22 hy zin0) bQ rfl (by decide)) ?_
      clear hF hS; rintro v_1_7 _ _ a w ⟨rfl, rfl⟩ hF hS
      refine ⟨⟨.inr (hS.k1 (sQ.n.n.n.n.n)), .inr hS.k0, iQ, iQ, iQ, iQ, trivial⟩, ?_⟩
      refine gQ 11 rfl rfl hF hS rfl (ef_append ty23 ty4 3 rfl rfl rfl (src_slV ty23 hz zin0) bQ rfl (by decide)) ?_
      clear hF hS; rintro v_1_11 _ _ a w ⟨rfl, rfl⟩ hF hS
      refine ⟨⟨iQ, iQ, iQ, iQ, iQ, iQ, trivial⟩, ?_⟩
      refine goW_take 12 _ rfl kQ rfl hF (hS.keep sQ (zQ.k.k.n.k)) (q_buildS1 ty67 3 kQ rfl rfl (oc_cons (row_one (hS.own _ (List.mem_of_getElem? (i := 2) rfl)).1) (oc_cons (row_one (hS.own _ (List.mem_of_getElem? (i := 0) rfl)).1) (oc_cons (row_one (hS.own _ (List.mem_of_getElem? (i := 3) rfl)).1) oc_nil))) rfl rfl) ?_
      clear hF; intro a hF
      refine gQ 14 rfl rfl hF hS rfl (ef_storeW ty67 1 rfl rfl rfl rfl bQ (oc_cons (row_one (hS.own _ (List.mem_of_getElem? (i := 2) rfl)).1) (oc_cons (row_one (hS.own _ (List.mem_of_getElem? (i := 0) rfl)).1) (oc_cons (row_one (hS.own _ (List.mem_of_getElem? (i := 3) rfl)).1) oc_nil))) bQ) ?_
      clear hF hS; rintro _ _ _ a w ⟨rfl, rfl, rfl⟩ hF hS
      refine ⟨⟨iQ, iQ, iQ, iQ, iQ, iQ, iQ, trivial⟩, ?_⟩
      exact goW_done kQ (j7_mk v_1_0 v_1_3 v_1_4 v_1_7 v_1_8 v_1_11 b_1_13 (trivial) (hF.sub (L' := [(1, _), (2, _), (6, _), (7, _)]) ⟨rfl, rfl, rfl, rfl, trivial⟩) (((hS.perm (.swap _ _ _)).perm (.cons _ (.cons _ (.swap _ _ _)))).perm (.cons _ (.swap _ _ _))))
     ·refine stepW_ef _ rfl rfl hF hS rfl (ef_bslice0 ty22 ty3) ?_
      clear hF hS; rintro v_1_4 _ _ a w ⟨rfl, rfl⟩ hF hS
      refine ⟨⟨.inr (hS.k1 (sQ.n.n.n.n.n)), .inr hS.k0, .inr (hS.k1 (sQ.n.n.n.n.n)), .inr hS.k0, .inr (hS.k1 (sQ.n.n.n.n.n)), .inr hS.k0, trivial⟩, ?_⟩
      refine gQ 3 rfl rfl hF hS rfl (ef_append ty22 ty3 2 rfl rfl rfl (src_slV ty22 hx zin0) bQ rfl (by decide)) ?_
      clear hF hS; rintro v_1_3 _ _ a w ⟨rfl, rfl⟩ hF hS
      refine ⟨⟨.inr (hS.k1 (sQ.n.n.n.n.n)), .inr hS.k0, .inr (hS.k1 (sQ.n.n.n.n.n)), .inr hS.k0, iQ, iQ, trivial⟩, ?_⟩
      refine gQ 7 rfl rfl hF hS rfl (ef_append ty22 ty3 0 rfl rfl rfl (src_slV ty22 hy zin0) bQ rfl (by decide)) ?_
      clear hF hS; rintro v_1_7 _ _ a w ⟨rfl, rfl⟩ hF hS
      refine ⟨⟨.inr (hS.k1 (sQ.n.n.n.n.n)), .inr hS.k0, iQ, iQ, iQ, iQ, trivial⟩, ?_⟩
      refine gQ 11 rfl rfl hF hS rfl (ef_append ty23 ty4 3 rfl rfl rfl (src_slV ty23 hz zin0) bQ rfl (by decide)) ?_
      clear hF hS; rintro v_1_11 _ _ a w ⟨rfl, rfl⟩ hF hS
      refine ⟨⟨iQ, iQ, iQ, iQ, iQ, iQ, trivial⟩, ?_⟩
      refine goW_take 12 _ rfl kQ rfl hF (hS.keep sQ (zQ.k.k.n.k)) (q_buildS1 ty67 3 kQ rfl rfl (oc_cons (row_one (hS.own _ (List.mem_of_getElem? (i := 2) rfl)).1) (oc_cons (row_one (hS.own _ (List.mem_of_getElem? (i := 0) rfl)).1) (oc_cons (row_one (hS.own _ (List.mem_of_getElem? (i := 3) rfl)).1) oc_nil))) rfl rfl) ?_
      clear hF; intro a hF
      refine gQ 14 rfl rfl hF hS rfl (ef_storeW ty67 1 rfl rfl rfl rfl bQ (oc_cons (row_one (hS.own _ (List.mem_of_getElem? (i := 2) rfl)).1) (oc_cons (row_one (hS.own _ (List.mem_of_getElem? (i := 0) rfl)).1) (oc_cons (row_one (hS.own _ (List.mem_of_getElem? (i := 3) rfl)).1) oc_nil))) bQ) ?_
      clear hF hS; rintro _ _ _ a w ⟨rfl, rfl, rfl⟩ hF hS
      refine ⟨⟨iQ, iQ, iQ, iQ, iQ, iQ, iQ, trivial⟩, ?_⟩
      exact goW_done kQ (j7_mk v_1_0 v_1_3 v_1_4 v_1_7 v_1_8 v_1_11 b_1_13 (trivial) (hF.sub (L' := [(1, _), (2, _), (6, _), (7, _)]) ⟨rfl, rfl, rfl, rfl, trivial⟩) (((hS.perm (.swap _ _ _)).perm (.cons _ (.cons _ (.swap _ _ _)))).perm (.cons _ (.swap _ _ _))))
   ·refine stepW_ef _ rfl rfl hF hS rfl (ef_bslice0 ty22 ty3) ?_
    clear hF hS; rintro v_1_4 _ _ a w ⟨rfl, rfl⟩ hF hS
    refine ⟨⟨.inr (hS.k1 (sQ.n.n.n)), .inr hS.k0, .inr (hS.k1 (sQ.n.n.n)), .inr hS.k0, .inr (hS.k1 (sQ.n.n.n)), .inr hS.k0, trivial⟩, ?_⟩
    refine goW_fork [0, 13] kQ rfl ⟨?_, ?_, trivial⟩
    ·refine stepW_ef _ rfl rfl hF hS rfl (ef_bslice0 ty22 ty3) ?_
     clear hF hS; rintro v_1_0 _ _ a w ⟨rfl, rfl⟩ hF hS
     refine ⟨⟨.inr (hS.k1 (sQ.n.n.n.n)), .inr hS.k0, .inr (hS.k1 (sQ.n.n.n.n)), .inr hS.k0, .inr (hS.k1 (sQ.n.n.n.n)), .inr hS.k0, trivial⟩, ?_⟩
     refine goW_fork [3, 13] kQ rfl ⟨?_, ?_, trivial⟩
     ·refine stepW_ef _ rfl rfl hF hS rfl (ef_append ty22 ty3 0 rfl rfl rfl (src_slV ty22 hx zin0) bQ rfl (by decide)) ?_
      clear hF hS; rintro v_1_3 _ _ a w ⟨rfl, rfl⟩ hF hS
      refine ⟨⟨.inr (hS.k1 (sQ.n.n.n.n)), .inr hS.k0, .inr (hS.k1 (sQ.n.n.n.n)), .inr hS.k0, iQ, iQ, trivial⟩, ?_⟩
      refine goW_fork [7, 13] kQ rfl ⟨?_, ?_, trivial⟩
      ·refine stepW_ef _ rfl rfl hF hS rfl (ef_append ty22 ty3 1 rfl rfl rfl (src_slV ty22 hy zin0) bQ rfl (by decide)) ?_
       clear hF hS; rintro v_1_7 _ _ a w ⟨rfl, rfl⟩ hF hS
       refine ⟨⟨.inr (hS.k1 (sQ.n.n.n.n)), .inr hS.k0, iQ, iQ, iQ, iQ, trivial⟩, ?_⟩
       refine goW_fork [11, 13] kQ rfl ⟨?_, ?_, trivial⟩
       ·refine stepW_ef _ rfl rfl hF hS rfl (ef_append ty23 ty4 2 rfl rfl rfl (src_slV ty23 hz zin0) bQ rfl (by decide)) ?_
        clear hF hS; rintro v_1_11 _ _ a w ⟨rfl, rfl⟩ hF hS
        refine ⟨⟨iQ, iQ, iQ, iQ, iQ, iQ, trivial⟩, ?_⟩
        refine goW_take 12 _ rfl kQ rfl hF (hS.keep sQ (zQ.k.k.k)) (q_buildS1 ty67 3 kQ rfl rfl (oc_cons (row_one (hS.own _ (List.mem_of_getElem? (i := 0) rfl)).1) (oc_cons (row_one (hS.own _ (List.mem_of_getElem? (i := 1) rfl)).1) (oc_cons (row_one (hS.own _ (List.mem_of_getElem? (i := 2) rfl)).1) oc_nil))) rfl rfl) ?_
        clear hF; intro a hF
        refine gQ 13 rfl rfl hF hS rfl (ef_allocA ty67) ?_
        clear hF hS; rintro _ _ _ a w ⟨b_1_13, rfl, rfl, rfl⟩ hF hS
        refine ⟨⟨.inr (hS.k1 (zQ.k.k.k.n)), iQ, iQ, iQ, iQ, iQ, iQ, trivial⟩, ?_⟩
        refine gQ 14 rfl rfl hF hS rfl (ef_storeW ty67 0 rfl rfl rfl rfl bQ (oc_cons (row_one (hS.own _ (List.mem_of_getElem? (i := 1) rfl)).1) (oc_cons (row_one (hS.own _ (List.mem_of_getElem? (i := 2) rfl)).1) (oc_cons (row_one (hS.own _ (List.mem_of_getElem? (i := 3) rfl)).1) oc_nil))) bQ) ?_
        clear hF hS; rintro _ _ _ a w ⟨rfl, rfl, rfl⟩ hF hS
        refine ⟨⟨iQ, iQ, iQ, iQ, iQ, iQ, iQ, trivial⟩, ?_⟩
        exact goW_done kQ (j7_mk v_1_0 v_1_3 v_1_4 v_1_7 v_1_8 v_1_11 b_1_13 (trivial) (hF.sub (L' := [(1, _), (2, _), (6, _), (7, _)]) ⟨rfl, rfl, rfl, rfl, trivial⟩) (((hS.perm (.cons _ (.cons _ (.swap _ _ _)))).perm (.cons _ (.swap _ _ _))).perm (.cons _ (.cons _ (.swap _ _ _)))))
       ·refine stepW_ef _ rfl rfl hF hS rfl (ef_allocA ty67) ?_
        clear hF hS; rintro _ _ _ a w ⟨b_1_13, rfl, rfl, rfl⟩ hF hS
        refine ⟨⟨.inr (hS.k1 (sQ.n.n.n.n.n)), .inr hS.k0, iQ, iQ, iQ, iQ, trivial⟩, ?_⟩
        refine gQ 11 rfl rfl hF hS rfl (ef_append ty23 ty4 3 rfl rfl rfl (src_slV ty23 hz zin0) bQ rfl (by decide)) ?_
        clear hF hS; rintro v_1_11 _ _ a w ⟨rfl, rfl⟩ hF hS
        refine ⟨⟨iQ, iQ, iQ, iQ, iQ, iQ, trivial⟩, ?_⟩
        refine goW_take 12 _ rfl kQ rfl hF (hS.keep sQ (zQ.k.k.k.n)) (q_buildS1 ty67 3 kQ rfl rfl (oc_cons (row_one (hS.own _ (List.mem_of_getElem? (i := 1) rfl)).1) (oc_cons (row_one (hS.own _ (List.mem_of_getElem? (i := 2) rfl)).1) (oc_cons (row_one (hS.own _ (List.mem_of_getElem? (i := 3) rfl)).1) oc_nil))) rfl rfl) ?_
        clear hF; intro a hF
        refine gQ 14 rfl rfl hF hS rfl (ef_storeW ty67 0 rfl rfl rfl rfl bQ (oc_cons (row_one (hS.own _ (List.mem_of_getElem? (i := 1) rfl)).1) (oc_cons (row_one (hS.own _ (List.mem_of_getElem? (i := 2) rfl)).1) (oc_cons (row_one (hS.own _ (List.mem_of_getElem? (i := 3) rfl)).1) oc_nil))) bQ) ?_
        clear hF hS; rintro _ _ _ a w ⟨rfl, rfl, rfl⟩ hF hS
        refine ⟨⟨iQ, iQ, iQ, iQ, iQ, iQ, iQ, trivial⟩, ?_⟩
        exact goW_done kQ (j7_mk v_1_0 v_1_3 v_1_4 v_1_7 v_1_8 v_1_11 b_1_13 (trivial) (hF.sub (L' := [(1, _), (2, _), (6, _), (7, _)]) ⟨rfl, rfl, rfl, rfl, trivial⟩) (((hS.perm (.cons _ (.cons _ (.swap _ _ _)))).perm (.cons _ (.swap _ _ _))).perm (.cons _ (.cons _ (.swap _ _ _)))))
      ·refine stepW_ef _ rfl rfl hF hS rfl (ef_allocA ty67) ?_
       clear hF hS; rintro _ _ _ a w ⟨b_1_13, rfl, rfl, rfl⟩ hF hS
       refine ⟨⟨.inr (hS.k1 (sQ.n.n.n.n.n)), .inr hS.k0, .inr (hS.k1 (sQ.n.n.n.n.n)), .inr hS.k0, iQ, iQ, trivial⟩, ?_⟩
       refine gQ 7 rfl rfl hF hS rfl (ef_append ty22 ty3 2 rfl rfl rfl (src_slV ty22 hy zin0) bQ rfl (by decide)) ?_
       clear hF hS; rintro v_1_7 _ _ a w ⟨rfl, rfl⟩ hF hS
       refine ⟨⟨.inr (hS.k1 (sQ.n.n.n.n.n)), .inr hS.k0, iQ, iQ, iQ, iQ, trivial⟩, ?_⟩
       refine gQ 11 rfl rfl hF hS rfl (ef_append ty23 ty4 3 rfl rfl rfl (src_slV ty23 hz zin0) bQ rfl (by decide)) ?_
       clear hF hS; rintro v_1_11 _ _ a w ⟨rfl, rfl⟩ hF hS
       refine ⟨⟨iQ, iQ, iQ, iQ, iQ, iQ, trivial⟩, ?_⟩
       refine goW_take 12 _ rfl kQ rfl hF (hS.keep sQ (zQ.k.k.k.n)) (q_buildS1 ty67 3 kQ rfl rfl (oc_cons (row_one (hS.own _ (List.mem_of_getElem? (i := 1) rfl)).1) (oc_cons (row_one (hS.own _ (List.mem_of_getElem? (i := 2) rfl)).1) (oc_cons (row_one (hS.own _ (List.mem_of_getElem? (i := 3) rfl)).1) oc_nil))) rfl rfl) ?_
       clear hF; intro a hF
       refine gQ 14 rfl rfl hF hS rfl (ef_storeW ty67 0 rfl rfl rfl rfl bQ (oc_cons (row_one (hS.own _ (List.mem_of_getElem? (i := 1) rfl)).1) (oc_cons (row_one (hS.own _ (List.mem_of_getElem? (i := 2) rfl)).1) (oc_cons (row_one (hS.own _ (List.mem_of_getElem? (i := 3) rfl)).1) oc_nil))) bQ) ?_
       clear hF hS; rintro _ _ _ a w ⟨rfl, rfl, rfl⟩ hF hS
       refine ⟨⟨iQ, iQ, iQ, iQ, iQ, iQ, iQ, trivial⟩, ?_⟩
       exact goW_done kQ (j7_mk v_1_0 v_1_3 v_1_4 v_1_7 v_1_8 v_1_11 b_1_13 (trivial) (hF.sub (L' := [(1, _), (2, _), (6, _), (7, _)]) ⟨rfl, rfl, rfl, rfl, trivial⟩) (((hS.perm (.cons _ (.cons _ (.swap _ _ _)))).perm (.cons _ (.swap _ _ _))).perm (.cons _ (.cons _ (.swap _ _ _)))))
     ·refine stepW_ef _ rfl rfl hF hS rfl (ef_allocA ty67) ?_
      clear hF hS; rintro _ _ _ a w ⟨b_1_13, rfl, rfl, rfl⟩ hF hS
      refine ⟨⟨.inr (hS.k1 (sQ.n.n.n.n.n)), .inr hS.k0, .inr (hS.k1 (sQ.n.n.n.n.n)), .inr hS.k0, .inr (hS.k1 (sQ.n.n.n.n.n)), .inr hS.k0, trivial⟩, ?_⟩
      refine gQ 3 rfl rfl hF hS rfl (ef_append ty22 ty3 1 rfl rfl rfl (src_slV ty22 hx zin0) bQ rfl (by decide)) ?_
      clear hF hS; rintro v_1_3 _ _ a w ⟨rfl, rfl⟩ hF hS
      refine ⟨⟨.inr (hS.k1 (sQ.n.n.n.n.n)), .inr hS.k0, .inr (hS.k1 (sQ.n.n.n.n.n)), .inr hS.k0, iQ, iQ, trivial⟩, ?_⟩
      refine gQ 7 rfl rfl hF hS rfl (ef_append ty22 ty3 2 rfl rfl rfl (src_slV ty22 hy zin0) bQ rfl (by decide)) ?_
      clear hF hS; rintro v_1_7 _ _ a w ⟨rfl, rfl⟩ hF hS
      refine ⟨⟨.inr (hS.k1 (sQ.n.n.n.n.n)), .inr hS.k0, iQ, iQ, iQ, iQ, trivial⟩, ?_⟩
      refine gQ 11 rfl rfl hF hS rfl (ef_append ty23 ty4 3 rfl rfl rfl (src_slV ty23 hz zin0) bQ rfl (by decide)) ?_
      clear hF hS; rintro v_1_11 _ _ a w ⟨rfl, rfl⟩ hF hS
      refine ⟨⟨iQ, iQ, iQ, iQ, iQ, iQ, trivial⟩, ?_⟩
      refine goW_take 12 _ rfl kQ rfl hF (hS.keep sQ (zQ.k.k.k.n)) (q_buildS1 ty67 3 kQ rfl rfl (oc_cons (row_one (hS.own _ (List.mem_of_getElem? (i := 1) rfl)).1) (oc_cons (row_one (hS.own _ (List.mem_of_getElem? (i := 2) rfl)).1) (oc_cons (row_one (hS.own _ (List.mem_of_getElem? (i := 3) rfl)).1) oc_nil))) rfl rfl) ?_
      clear hF; intro a hF
      refine gQ 14 rfl rfl hF hS rfl (ef_storeW ty67 0 rfl rfl rfl rfl bQ (oc_cons (row_one (hS.own _ (List.mem_of_getElem? (i := 1) rfl)).1) (oc_cons (row_one (hS.own _ (List.mem_of_getElem? (i := 2) rfl)).1) (oc_cons (row_one (hS.own _ (List.mem_of_getElem? (i := 3) rfl)).1) oc_nil))) bQ) ?_
      clear hF hS; rintro _ _ _ a w ⟨rfl, rfl, rfl⟩ hF hS
      refine ⟨⟨iQ, iQ, iQ, iQ, iQ, iQ, iQ, trivial⟩, ?_⟩
      exact goW_done kQ (j7_mk v_1_0 v_1_3 v_1_4 v_1_7 v_1_8 v_1_11 b_1_13 (trivial) (hF.sub (L' := [(1, _), (2, _), (6, _), (7, _)]) ⟨rfl, rfl, rfl, rfl, trivial⟩) (((hS.perm (.cons _ (.cons _ (.swap _ _ _)))).perm (.cons _ (.swap _ _ _))).perm (.cons _ (.cons _ (.swap _ _ _)))))
    ·refine stepW_ef _ rfl rfl hF hS rfl (ef_allocA ty67) ?_
     clear hF hS; rintro _ _ _ a w ⟨b_1_13, rfl, rfl, rfl⟩ hF hS
     refine ⟨⟨.inr (hS.k1 (sQ.n.n.n.n)), .inr hS.k0, .inr (hS.k1 (sQ.n.n.n.n)), .inr hS.k0, .inr (hS.k1 (sQ.n.n.n.n)), .inr hS.k0, trivial⟩, ?_⟩
     refine gQ 0 rfl rfl hF hS rfl (ef_bslice0 ty22 ty3) ?_
     clear hF hS; rintro v_1_0 _ _ a w ⟨rfl, rfl⟩ hF hS
     refine ⟨⟨.inr (hS.k1 (sQ.n.n.n.n.n)), .inr hS.k0, .inr (hS.k1 (sQ.n.n.n.n.n)), .inr hS.k0, .inr (hS.k1 (sQ.n.n.n.n.n)), .inr hS.k0, trivial⟩, ?_⟩
     refine gQ 3 rfl rfl hF hS rfl (ef_append ty22 ty3 0 rfl rfl rfl (src_slV ty22 hx zin0) bQ rfl (by decide)) ?_
     clear hF hS; rintro v_1_3 _ _ a w ⟨rfl, rfl⟩ hF hS
     refine ⟨⟨.inr (hS.k1 (sQ.n.n.n.n.n)), .inr hS.k0, .inr (hS.k1 (sQ.n.n.n.n.n)), .inr hS.k0, iQ, iQ, trivial⟩, ?_⟩
     refine gQ 7 rfl rfl hF hS rfl (ef_append ty22 ty3 2 rfl rfl rfl (src_slV ty22 hy zin0) bQ rfl (by decide)) ?_
     clear hF hS; rintro v_1_7 _ _ a w ⟨rfl, rfl⟩ hF hS
     refine ⟨⟨.inr (hS.k1 (sQ.n.n.n.n.n)), .inr hS.k0, iQ, iQ, iQ, iQ, trivial⟩, ?_⟩
     refine gQ 11 rfl rfl hF hS rfl (ef_append ty23 ty4 3 rfl rfl rfl (src_slV ty23 hz zin0) bQ rfl (by decide)) ?_
     clear hF hS; rintro v_1_11 _ _ a w ⟨rfl, rfl⟩ hF hS
     refine ⟨⟨iQ, iQ, iQ, iQ, iQ, iQ, trivial⟩, ?_⟩
     refine goW_take 12 _ rfl kQ rfl hF (hS.keep sQ (zQ.k.k.n.k)) (q_buildS1 ty67 3 kQ rfl rfl (oc_cons (row_one (hS.own _ (List.mem_of_getElem? (i := 0) rfl)).1) (oc_cons (row_one (hS.own _ (List.mem_of_getElem? (i := 2) rfl)).1) (oc_cons (row_one (hS.own _ (List.mem_of_getElem? (i := 3) rfl)).1) oc_nil))) rfl rfl) ?_
     clear hF; intro a hF
     refine gQ 14 rfl rfl hF hS rfl (ef_storeW ty67 1 rfl rfl rfl rfl bQ (oc_cons (row_one (hS.own _ (List.mem_of_getElem? (i := 0) rfl)).1) (oc_cons (row_one (hS.own _ (List.mem_of_getElem? (i := 2) rfl)).1) (oc_cons (row_one (hS.own _ (List.mem_of_getElem? (i := 3) rfl)).1) oc_nil))) bQ) ?_
     clear hF hS; rintro _ _ _ a w ⟨rfl, rfl, rfl⟩ hF hS
     refine ⟨⟨iQ, iQ, iQ, iQ, iQ, iQ, iQ, trivial⟩, ?_⟩
     exact goW_done kQ (j7_mk v_1_0 v_1_3 v_1_4 v_1_7 v_1_8 v_1_11 b_1_13 (trivial) (hF.sub (L' := [(1, _), (2, _), (6, _), (7, _)]) ⟨rfl, rfl, rfl, rfl, trivial⟩) ((((hS.perm (.swap _ _ _)).perm (.cons _ (.cons _ (.swap _ _ _)))).perm (.cons _ (.swap _ _ _))).perm (.cons _ (.cons _ (.swap _ _ _)))))
   ·refine stepW_ef _ rfl rfl hF hS rfl (ef_allocA ty67) ?_
    clear hF hS; rintro _ _ _ a w ⟨b_1_13, rfl, rfl, rfl⟩ hF hS
    refine ⟨⟨.inr (hS.k1 (sQ.n.n.n)), .inr hS.k0, .inr (hS.k1 (sQ.n.n.n)), .inr hS.k0, .inr (hS.k1 (sQ.n.n.n)), .inr hS.k0, trivial⟩, ?_⟩
    refine goW_fork [0, 4] kQ rfl ⟨?_, ?_, trivial⟩
    ·refine stepW_ef _ rfl rfl hF hS rfl (ef_bslice0 ty22 ty3) ?_
     clear hF hS; rintro v_1_0 _ _ a w ⟨rfl, rfl⟩ hF hS
     refine ⟨⟨.inr (hS.k1 (sQ.n.n.n.n)), .inr hS.k0, .inr (hS.k1 (sQ.n.n.n.n)), .inr hS.k0, .inr (hS.k1 (sQ.n.n.n.n)), .inr hS.k0, trivial⟩, ?_⟩
     refine goW_fork [3, 4] kQ rfl ⟨?_, ?_, trivial⟩
     ·refine stepW_ef _ rfl rfl hF hS rfl (ef_append ty22 ty3 0 rfl rfl rfl (src_slV ty22 hx zin0) bQ rfl (by decide)) ?_
      clear hF hS; rintro v_1_3 _ _ a w ⟨rfl, rfl⟩ hF hS
      refine ⟨⟨.inr (hS.k1 (sQ.n.n.n.n)), .inr hS.k0, .inr (hS.k1 (sQ.n.n.n.n)), .inr hS.k0, iQ, iQ, trivial⟩, ?_⟩
      refine gQ 4 rfl rfl hF hS rfl (ef_bslice0 ty22 ty3) ?_
      clear hF hS; rintro v_1_4 _ _ a w ⟨rfl, rfl⟩ hF hS
      refine ⟨⟨.inr (hS.k1 (sQ.n.n.n.n.n)), .inr hS.k0, .inr (hS.k1 (sQ.n.n.n.n.n)), .inr hS.k0, iQ, iQ, trivial⟩, ?_⟩
      refine gQ 7 rfl rfl hF hS rfl (ef_append ty22 ty3 0 rfl rfl rfl (src_slV ty22 hy zin0) bQ rfl (by decide)) ?_
      clear hF hS; rintro v_1_7 _ _ a w ⟨rfl, rfl⟩ hF hS
      refine ⟨⟨.inr (hS.k1 (sQ.n.n.n.n.n)), .inr hS.k0, iQ, iQ, iQ, iQ, trivial⟩, ?_⟩
      refine gQ 11 rfl rfl hF hS rfl (ef_append ty23 ty4 3 rfl rfl rfl (src_slV ty23 hz zin0) bQ rfl (by decide)) ?_
      clear hF hS; rintro v_1_11 _ _ a w ⟨rfl, rfl⟩ hF hS
      refine ⟨⟨iQ, iQ, iQ, iQ, iQ, iQ, trivial⟩, ?_⟩
      refine goW_take 12 _ rfl kQ rfl hF (hS.keep sQ (zQ.k.n.k.k)) (q_buildS1 ty67 3 kQ rfl rfl (oc_cons (row_one (hS.own _ (List.mem_of_getElem? (i := 1) rfl)).1) (oc_cons (row_one (hS.own _ (List.mem_of_getElem? (i := 0) rfl)).1) (oc_cons (row_one (hS.own _ (List.mem_of_getElem? (i := 3) rfl)).1) oc_nil))) rfl rfl) ?_
      clear hF; intro a hF
      refine gQ 14 rfl rfl hF hS rfl (ef_storeW ty67 2 rfl rfl rfl rfl bQ (oc_cons (row_one (hS.own _ (List.mem_of_getElem? (i := 1) rfl)).1) (oc_cons (row_one (hS.own _ (List.mem_of_getElem? (i := 0) rfl)).1) (oc_cons (row_one (hS.own _ (List.mem_of_getElem? (i := 3) rfl)).1) oc_nil))) bQ) ?_
      clear hF hS; rintro _ _ _ a w ⟨rfl, rfl, rfl⟩ hF hS
      refine ⟨⟨iQ, iQ, iQ, iQ, iQ, iQ, iQ, trivial⟩, ?_⟩
      exact goW_done kQ (j7_mk v_1_0 v_1_3 v_1_4 v_1_7 v_1_8 v_1_11 b_1_13 (trivial) (hF.sub (L' := [(1, _), (2, _), (6, _), (7, _)]) ⟨rfl, rfl, rfl, rfl, trivial⟩) ((((hS.perm (.cons _ (.swap _ _ _))).perm (.swap _ _ _)).perm (.cons _ (.cons _ (.swap _ _ _)))).perm (.cons _ (.swap _ _ _))))
     ·refine stepW_ef _ rfl rfl hF hS rfl (ef_bslice0 ty22 ty3) ?_
      clear hF hS; rintro v_1_4 _ _ a w ⟨rfl, rfl⟩ hF hS
      refine ⟨⟨.inr (hS.k1 (sQ.n.n.n.n.n)), .inr hS.k0, .inr (hS.k1 (sQ.n.n.n.n.n)), .inr hS.k0, .inr (hS.k1 (sQ.n.n.n.n.n)), .inr hS.k0, trivial⟩, ?_⟩
      refine gQ 3 rfl rfl hF hS rfl (ef_append ty22 ty3 1 rfl rfl rfl (src_slV ty22 hx zin0) bQ rfl (by decide)) ?_
      clear hF hS; rintro v_1_3 _ _ a w ⟨rfl, rfl⟩ hF hS
      refine ⟨⟨.inr (hS.k1 (sQ.n.n.n.n.n)), .inr hS.k0, .inr (hS.k1 (sQ.n.n.n.n.n)), .inr hS.k0, iQ, iQ, trivial⟩, ?_⟩
      refine gQ 7 rfl rfl hF hS rfl (ef_append ty22 ty3 0 rfl rfl rfl (src_slV ty22 hy zin0) bQ rfl (by decide)) ?_
      clear hF hS; rintro v_1_7 _ _ a w ⟨rfl, rfl⟩ hF hS
      refine ⟨⟨.inr (hS.k1 (sQ.n.n.n.n.n)), .inr hS.k0, iQ, iQ, iQ, iQ, trivial⟩, ?_⟩
      refine gQ 11 rfl rfl hF hS rfl (ef_append ty23 ty4 3 rfl rfl rfl (src_slV ty23 hz zin0) bQ rfl (by decide)) ?_
      clear hF hS; rintro v_1_11 _ _ a w ⟨rfl, rfl⟩ hF hS
      refine ⟨⟨iQ, iQ, iQ, iQ, iQ, iQ, trivial⟩, ?_⟩
      refine goW_take 12 _ rfl kQ rfl hF (hS.keep sQ (zQ.k.n.k.k)) (q_buildS1 ty67 3 kQ rfl rfl (oc_cons (row_one (hS.own _ (List.mem_of_getElem? (i := 1) rfl)).1) (oc_cons (row_one (hS.own _ (List.mem_of_getElem? (i := 0) rfl)).1) (oc_cons (row_one (hS.own _ (List.mem_of_getElem? (i := 3) rfl)).1) oc_nil))) rfl rfl) ?_
      clear hF; intro a hF
      refine gQ 14 rfl rfl hF hS rfl (ef_storeW ty67 2 rfl rfl rfl rfl bQ (oc_cons (row_one (hS.own _ (List.mem_of_getElem? (i := 1) rfl)).1) (oc_cons (row_one (hS.own _ (List.mem_of_getElem? (i := 0) rfl)).1) (oc_cons (row_one (hS.own _ (List.mem_of_getElem? (i := 3) rfl)).1) oc_nil))) bQ) ?_
      clear hF hS; rintro _ _ _ a w ⟨rfl, rfl, rfl⟩ hF hS
      refine ⟨⟨iQ, iQ, iQ, iQ, iQ, iQ, iQ, trivial⟩, ?_⟩
      exact goW_done kQ (j7_mk v_1_0 v_1_3 v_1_4 v_1_7 v_1_8 v_1_11 b_1_13 (trivial) (hF.sub (L' := [(1, _), (2, _), (6, _), (7, _)]) ⟨rfl, rfl, rfl, rfl, trivial⟩) ((((hS.perm (.cons _ (.swap _ _ _))).perm (.swap _ _ _)).perm (.cons _ (.cons _ (.swap _ _ _)))).perm (.cons _ (.swap _ _ _))))
    ·refine stepW_ef _ rfl rfl hF hS rfl (ef_bslice0 ty22 ty3) ?_
     clear hF hS; rintro v_1_4 _ _ a w ⟨rfl, rfl⟩ hF hS
     refine ⟨⟨.inr (hS.k1 (sQ.n.n.n.n)), .inr hS.k0, .inr (hS.k1 (sQ.n.n.n.n)), .inr hS.k0, .inr (hS.k1 (sQ.n.n.n.n)), .inr hS.k0, trivial⟩, ?_⟩
     refine gQ 0 rfl rfl hF hS rfl (ef_bslice0 ty22 ty3) ?_
     clear hF hS; rintro v_1_0 _ _ a w ⟨rfl, rfl⟩ hF hS
     refine ⟨⟨.inr (hS.k1 (sQ.n.n.n.n.n)), .inr hS.k0, .inr (hS.k1 (sQ.n.n.n.n.n)), .inr hS.k0, .inr (hS.k1 (sQ.n.n.n.n.n)), .inr hS.k0, trivial⟩, ?_⟩
     refine gQ 3 rfl rfl hF hS rfl (ef_append ty22 ty3 0 rfl rfl rfl (src_slV ty22 hx zin0) bQ rfl (by decide)) ?_
     clear hF hS; rintro v_1_3 _ _ a w ⟨rfl, rfl⟩ hF hS
     refine ⟨⟨.inr (hS.k1 (sQ.n.n.n.n.n)), .inr hS.k0, .inr (hS.k1 (sQ.n.n.n.n.n)), .inr hS.k0, iQ, iQ, trivial⟩, ?_⟩
     refine gQ 7 rfl rfl hF hS rfl (ef_append ty22 ty3 1 rfl rfl rfl (src_slV ty22 hy zin0) bQ rfl (by decide)) ?_
     clear hF hS; rintro v_1_7 _ _ a w ⟨rfl, rfl⟩ hF hS
     refine ⟨⟨.inr (hS.k1 (sQ.n.n.n.n.n)), .inr hS.k0, iQ, iQ, iQ, iQ, trivial⟩, ?_⟩
     refine gQ 11 rfl rfl hF hS rfl (ef_append ty23 ty4 3 rfl rfl rfl (src_slV ty23 hz zin0) bQ rfl (by decide)) ?_
     clear hF hS; rintro v_1_11 _ _ a w ⟨rfl, rfl⟩ hF hS
     refine ⟨⟨iQ, iQ, iQ, iQ, iQ, iQ, trivial⟩, ?_⟩
     refine goW_take 12 _ rfl kQ rfl hF (hS.keep sQ (zQ.k.n.k.k)) (q_buildS1 ty67 3 kQ rfl rfl (oc_cons (row_one (hS.own _ (List.mem_of_getElem? (i := 0) rfl)).1) (oc_cons (row_one (hS.own _ (List.mem_of_getElem? (i := 1) rfl)).1) (oc_cons (row_one (hS.own _ (List.mem_of_getElem? (i := 3) rfl)).1) oc_nil))) rfl rfl) ?_
     clear hF; intro a hF
     refine gQ 14 rfl rfl hF hS rfl (ef_storeW ty67 2 rfl rfl rfl rfl bQ (oc_cons (row_one (hS.own _ (List.mem_of_getElem? (i := 0) rfl)).1) (oc_cons (row_one (hS.own _ (List.mem_of_getElem? (i := 1) rfl)).1) (oc_cons (row_one (hS.own _ (List.mem_of_getElem? (i := 3) rfl)).1) oc_nil))) bQ) ?_
     clear hF hS; rintro _ _ _ a w ⟨rfl, rfl, rfl⟩ hF hS
     refine ⟨⟨iQ, iQ, iQ, iQ, iQ, iQ, iQ, trivial⟩, ?_⟩
     exact goW_done kQ (j7_mk v_1_0 v_1_3 v_1_4 v_1_7 v_1_8 v_1_11 b_1_13 (trivial) (hF.sub (L' := [(1, _), (2, _), (6, _), (7, _)]) ⟨rfl, rfl, rfl, rfl, trivial⟩) (((((hS.perm (.cons _ (.swap _ _ _))).perm (.swap _ _ _)).perm (.cons _ (.cons _ (.swap _ _ _)))).perm (.cons _ (.swap _ _ _))).perm (.cons _ (.cons _ (.swap _ _ _)))))
  ·refine stepW_ef _ rfl rfl hF hS rfl (ef_allocA ty67) ?_
   clear hF hS; rintro _ _ _ a w ⟨b_1_13, rfl, rfl, rfl⟩ hF hS
   refine ⟨⟨.inr (hS.k1 (sQ.n.n)), .inr hS.k0, .inr (hS.k1 (sQ.n.n)), .inr hS.k0, .inr (hS.k1 (sQ.n.n)), .inr hS.k0, trivial⟩, ?_⟩
   refine goW_fork [0, 4, 8] kQ rfl ⟨?_, ?_, ?_, trivial⟩
   ·refine stepW_ef _ rfl rfl hF hS rfl (ef_bslice0 ty22 ty3) ?_
    clear hF hS; rintro v_1_0 _ _ a w ⟨rfl, rfl⟩ hF hS
    refine ⟨⟨.inr (hS.k1 (sQ.n.n.n)), .inr hS.k0, .inr (hS.k1 (sQ.n.n.n)), .inr hS.k0, .inr (hS.k1 (sQ.n.n.n)), .inr hS.k0, trivial⟩, ?_⟩
    refine goW_fork [3, 4, 8] kQ rfl ⟨?_, ?_, ?_, trivial⟩
    ·refine stepW_ef _ rfl rfl hF hS rfl (ef_append ty22 ty3 0 rfl rfl rfl (src_slV ty22 hx zin0) bQ rfl (by decide)) ?_
     clear hF hS; rintro v_1_3 _ _ a w ⟨rfl, rfl⟩ hF hS
     refine ⟨⟨.inr (hS.k1 (sQ.n.n.n)), .inr hS.k0, .inr (hS.k1 (sQ.n.n.n)), .inr hS.k0, iQ, iQ, trivial⟩, ?_⟩
     refine goW_fork [4, 8] kQ rfl ⟨?_, ?_, trivial⟩
     ·refine stepW_ef _ rfl rfl hF hS rfl (ef_bslice0 ty22 ty3) ?_
      clear hF hS; rintro v_1_4 _ _ a w ⟨rfl, rfl⟩ hF hS
      refine ⟨⟨.inr (hS.k1 (sQ.n.n.n.n)), .inr hS.k0, .inr (hS.k1 (sQ.n.n.n.n)), .inr hS.k0, iQ, iQ, trivial⟩, ?_⟩
      refine goW_fork [7, 8] kQ rfl ⟨?_, ?_, trivial⟩
      ·refine stepW_ef _ rfl rfl hF hS rfl (ef_append ty22 ty3 0 rfl rfl rfl (src_slV ty22 hy zin0) bQ rfl (by decide)) ?_
       clear hF hS; rintro v_1_7 _ _ a w ⟨rfl, rfl⟩ hF hS
       refine ⟨⟨.inr (hS.k1 (sQ.n.n.n.n)), .inr hS.k0, iQ, iQ, iQ, iQ, trivial⟩, ?_⟩
       refine gQ 8 rfl rfl hF hS rfl (ef_bslice0 ty23 ty4) ?_
       clear hF hS; rintro v_1_8 _ _ a w ⟨rfl, rfl⟩ hF hS
       refine ⟨⟨.inr (hS.k1 (sQ.n.n.n.n.n)), .inr hS.k0, iQ, iQ, iQ, iQ, trivial⟩, ?_⟩
       refine gQ 11 rfl rfl hF hS rfl (ef_append ty23 ty4 0 rfl rfl rfl (src_slV ty23 hz zin0) bQ rfl (by decide)) ?_
       clear hF hS; rintro v_1_11 _ _ a w ⟨rfl, rfl⟩ hF hS
       refine ⟨⟨iQ, iQ, iQ, iQ, iQ, iQ, trivial⟩, ?_⟩
       refine goW_take 12 _ rfl kQ rfl hF (hS.keep sQ (zQ.k.k.k)) (q_buildS1 ty67 3 kQ rfl rfl (oc_cons (row_one (hS.own _ (List.mem_of_getElem? (i := 2) rfl)).1) (oc_cons (row_one (hS.own _ (List.mem_of_getElem? (i := 1) rfl)).1) (oc_cons (row_one (hS.own _ (List.mem_of_getElem? (i := 0) rfl)).1) oc_nil))) rfl rfl) ?_
       clear hF; intro a hF
       refine gQ 14 rfl rfl hF hS rfl (ef_storeW ty67 3 rfl rfl rfl rfl bQ (oc_cons (row_one (hS.own _ (List.mem_of_getElem? (i := 2) rfl)).1) (oc_cons (row_one (hS.own _ (List.mem_of_getElem? (i := 1) rfl)).1) (oc_cons (row_one (hS.own _ (List.mem_of_getElem? (i := 0) rfl)).1) oc_nil))) bQ) ?_
       clear hF hS; rintro _ _ _ a w ⟨rfl, rfl, rfl⟩ hF hS
       refine ⟨⟨iQ, iQ, iQ, iQ, iQ, iQ, iQ, trivial⟩, ?_⟩
       exact goW_done kQ (j7_mk v_1_0 v_1_3 v_1_4 v_1_7 v_1_8 v_1_11 b_1_13 (trivial) (hF.sub (L' := [(1, _), (2, _), (6, _), (7, _)]) ⟨rfl, rfl, rfl, rfl, trivial⟩) (((hS.perm (.cons _ (.cons _ (.swap _ _ _)))).perm (.cons _ (.swap _ _ _))).perm (.swap _ _ _)))
      ·refine stepW_ef _ rfl rfl hF hS rfl (ef_bslice0 ty23 ty4) ?_
       clear hF hS; rintro v_1_8 _ _ a w ⟨rfl, rfl⟩ hF hS
       refine ⟨⟨.inr (hS.k1 (sQ.n.n.n.n.n)), .inr hS.k0, .inr (hS.k1 (sQ.n.n.n.n.n)), .inr hS.k0, iQ, iQ, trivial⟩, ?_⟩
       refine gQ 7 rfl rfl hF hS rfl (ef_append ty22 ty3 1 rfl rfl rfl (src_slV ty22 hy zin0) bQ rfl (by decide)) ?_
       clear hF hS; rintro v_1_7 _ _ a w ⟨rfl, rfl⟩ hF hS
       refine ⟨⟨.inr (hS.k1 (sQ.n.n.n.n.n)), .inr hS.k0, iQ, iQ, iQ, iQ, trivial⟩, ?_⟩
       refine gQ 11 rfl rfl hF hS rfl (ef_append ty23 ty4 0 rfl rfl rfl (src_slV ty23 hz zin0) bQ rfl (by decide)) ?_
       clear hF hS; rintro v_1_11 _ _ a w ⟨rfl, rfl⟩ hF hS
       refine ⟨⟨iQ, iQ, iQ, iQ, iQ, iQ, trivial⟩, ?_⟩
       refine goW_take 12 _ rfl kQ rfl hF (hS.keep sQ (zQ.k.k.k)) (q_buildS1 ty67 3 kQ rfl rfl (oc_cons (row_one (hS.own _ (List.mem_of_getElem? (i := 2) rfl)).1) (oc_cons (row_one (hS.own _ (List.mem_of_getElem? (i := 1) rfl)).1) (oc_cons (row_one (hS.own _ (List.mem_of_getElem? (i := 0) rfl)).1) oc_nil))) rfl rfl) ?_
       clear hF; intro a hF
       refine gQ 14 rfl rfl hF hS rfl (ef_storeW ty67 3 rfl rfl rfl rfl bQ (oc_cons (row_one (hS.own _ (List.mem_of_getElem? (i := 2) rfl)).1) (oc_cons (row_one (hS.own _ (List.mem_of_getElem? (i := 1) rfl)).1) (oc_cons (row_one (hS.own _ (List.mem_of_getElem? (i := 0) rfl)).1) oc_nil))) bQ) ?_
       clear hF hS; rintro _ _ _ a w ⟨rfl, rfl, rfl⟩ hF hS
       refine ⟨⟨iQ, iQ, iQ, iQ, iQ, iQ, iQ, trivial⟩, ?_⟩
       exact goW_done kQ (j7_mk v_1_0 v_1_3 v_1_4 v_1_7 v_1_8 v_1_11 b_1_13 (trivial) (hF.sub (L' := [(1, _), (2, _), (6, _), (7, _)]) ⟨rfl, rfl, rfl, rfl, trivial⟩) (((hS.perm (.cons _ (.cons _ (.swap _ _ _)))).perm (.cons _ (.swap _ _ _))).perm (.swap _ _ _)))
     ·refine stepW_ef _ rfl rfl hF hS rfl (ef_bslice0 ty23 ty4) ?_
      clear hF hS; rintro v_1_8 _ _ a w ⟨rfl, rfl⟩ hF hS
      refine ⟨⟨.inr (hS.k1 (sQ.n.n.n.n)), .inr hS.k0, .inr (hS.k1 (sQ.n.n.n.n)), .inr hS.k0, iQ, iQ, trivial⟩, ?_⟩
      refine gQ 4 rfl rfl hF hS rfl (ef_bslice0 ty22 ty3) ?_
      clear hF hS; rintro v_1_4 _ _ a w ⟨rfl, rfl⟩ hF hS
      refine ⟨⟨.inr (hS.k1 (sQ.n.n.n.n.n)), .inr hS.k0, .inr (hS.k1 (sQ.n.n.n.n.n)), .inr hS.k0, iQ, iQ, trivial⟩, ?_⟩
      refine gQ 7 rfl rfl hF hS rfl (ef_append ty22 ty3 0 rfl rfl rfl (src_slV ty22 hy zin0) bQ rfl (by decide)) ?_
      clear hF hS; rintro v_1_7 _ _ a w ⟨rfl, rfl⟩ hF hS
      refine ⟨⟨.inr (hS.k1 (sQ.n.n.n.n.n)), .inr hS.k0, iQ, iQ, iQ, iQ, trivial⟩, ?_⟩
      refine gQ 11 rfl rfl hF hS rfl (ef_append ty23 ty4 1 rfl rfl rfl (src_slV ty23 hz zin0) bQ rfl (by decide)) ?_
      clear hF hS; rintro v_1_11 _ _ a w ⟨rfl, rfl⟩ hF hS
      refine ⟨⟨iQ, iQ, iQ, iQ, iQ, iQ, trivial⟩, ?_⟩
      refine goW_take 12 _ rfl kQ rfl hF (hS.keep sQ (zQ.k.k.k)) (q_buildS1 ty67 3 kQ rfl rfl (oc_cons (row_one (hS.own _ (List.mem_of_getElem? (i := 2) rfl)).1) (oc_cons (row_one (hS.own _ (List.mem_of_getElem? (i := 0) rfl)).1) (oc_cons (row_one (hS.own _ (List.mem_of_getElem? (i := 1) rfl)).1) oc_nil))) rfl rfl) ?_
      clear hF; intro a hF
      refine gQ 14 rfl rfl hF hS rfl (ef_storeW ty67 3 rfl rfl rfl rfl bQ (oc_cons (row_one (hS.own _ (List.mem_of_getElem? (i := 2) rfl)).1) (oc_cons (row_one (hS.own _ (List.mem_of_getElem? (i := 0) rfl)).1) (oc_cons (row_one (hS.own _ (List.mem_of_getElem? (i := 1) rfl)).1) oc_nil))) bQ) ?_
      clear hF hS; rintro _ _ _ a w ⟨rfl, rfl, rfl⟩ hF hS
      refine ⟨⟨iQ, iQ, iQ, iQ, iQ, iQ, iQ, trivial⟩, ?_⟩
      exact goW_done kQ (j7_mk v_1_0 v_1_3 v_1_4 v_1_7 v_1_8 v_1_11 b_1_13 (trivial) (hF.sub (L' := [(1, _), (2, _), (6, _), (7, _)]) ⟨rfl, rfl, rfl, rfl, trivial⟩) ((((hS.perm (.cons _ (.cons _ (.swap _ _ _)))).perm (.cons _ (.swap _ _ _))).perm (.swap _ _ _)).perm (.cons _ (.swap _ _ _))))
    ·refine stepW_ef _ rfl rfl hF hS rfl (ef_bslice0 ty22 ty3) ?_
     clear hF hS; rintro v_1_4 _ _ a w ⟨rfl, rfl⟩ hF hS
     refine ⟨⟨.inr (hS.k1 (sQ.n.n.n.n)), .inr hS.k0, .inr (hS.k1 (sQ.n.n.n.n)), .inr hS.k0, .inr (hS.k1 (sQ.n.n.n.n)), .inr hS.k0, trivial⟩, ?_⟩
     refine goW_fork [3, 8] kQ rfl ⟨?_, ?_, trivial⟩
     ·refine stepW_ef _ rfl rfl hF hS rfl (ef_append ty22 ty3 1 rfl rfl rfl (src_slV ty22 hx zin0) bQ rfl (by decide)) ?_
      clear hF hS; rintro v_1_3 _ _ a w ⟨rfl, rfl⟩ hF hS
      refine ⟨⟨.inr (hS.k1 (sQ.n.n.n.n)), .inr hS.k0, .inr (hS.k1 (sQ.n.n.n.n)), .inr hS.k0, iQ, iQ, trivial⟩, ?_⟩
      refine goW_fork [7, 8] kQ rfl ⟨?_, ?_, trivial⟩
      ·refine stepW_ef _ rfl rfl hF hS rfl (ef_append ty22 ty3 0 rfl rfl rfl (src_slV ty22 hy zin0) bQ rfl (by decide)) ?_
       clear hF hS; rintro v_1_7 _ _ a w ⟨rfl, rfl⟩ hF hS
       refine ⟨⟨.inr (hS.k1 (sQ.n.n.n.n)), .inr hS.k0, iQ, iQ, iQ, iQ, trivial⟩, ?_⟩
       refine gQ 8 rfl rfl hF hS rfl (ef_bslice0 ty23 ty4) ?_
       clear hF hS; rintro v_1_8 _ _ a w ⟨rfl, rfl⟩ hF hS
       refine ⟨⟨.inr (hS.k1 (sQ.n.n.n.n.n)), .inr hS.k0, iQ, iQ, iQ, iQ, trivial⟩, ?_⟩
       refine gQ 11 rfl rfl hF hS rfl (ef_append ty23 ty4 0 rfl rfl rfl (src_slV ty23 hz zin0) bQ rfl (by decide)) ?_
       clear hF hS; rintro v_1_11 _ _ a w ⟨rfl, rfl⟩ hF hS
       refine ⟨⟨iQ, iQ, iQ, iQ, iQ, iQ, trivial⟩, ?_⟩
       refine goW_take 12 _ rfl kQ rfl hF (hS.keep sQ (zQ.k.k.k)) (q_buildS1 ty67 3 kQ rfl rfl (oc_cons (row_one (hS.own _ (List.mem_of_getElem? (i := 2) rfl)).1) (oc_cons (row_one (hS.own _ (List.mem_of_getElem? (i := 1) rfl)).1) (oc_cons (row_one (hS.own _ (List.mem_of_getElem? (i := 0) rfl)).1) oc_nil))) rfl rfl) ?_
       clear hF; intro a hF
       refine gQ 14 rfl rfl hF hS rfl (ef_storeW ty67 3 rfl rfl rfl rfl bQ (oc_cons (row_one (hS.own _ (List.mem_of_getElem? (i := 2) rfl)).1) (oc_cons (row_one (hS.own _ (List.mem_of_getElem? (i := 1) rfl)).1) (oc_cons (row_one (hS.own _ (List.mem_of_getElem? (i := 0) rfl)).1) oc_nil))) bQ) ?_
       clear hF hS; rintro _ _ _ a w ⟨rfl, rfl, rfl⟩ hF hS
       refine ⟨⟨iQ, iQ, iQ, iQ, iQ, iQ, iQ, trivial⟩, ?_⟩
       exact goW_done kQ (j7_mk v_1_0 v_1_3 v_1_4 v_1_7 v_1_8 v_1_11 b_1_13 (trivial) (hF.sub (L' := [(1, _), (2, _), (6, _), (7, _)]) ⟨rfl, rfl, rfl, rfl, trivial⟩) (((hS.perm (.cons _ (.cons _ (.swap _ _ _)))).perm (.cons _ (.swap _ _ _))).perm (.swap _ _ _)))
      ·refine stepW_ef _ rfl rfl hF hS rfl (ef_bslice0 ty23 ty4) ?_
       clear hF hS; rintro v_1_8 _ _ a w ⟨rfl, rfl⟩ hF hS
       refine ⟨⟨.inr (hS.k1 (sQ.n.n.n.n.n)), .inr hS.k0, .inr (hS.k1 (sQ.n.n.n.n.n)), .inr hS.k0, iQ, iQ, trivial⟩, ?_⟩
       refine gQ 7 rfl rfl hF hS rfl (ef_append ty22 ty3 1 rfl rfl rfl (src_slV ty22 hy zin0) bQ rfl (by decide)) ?_
       clear hF hS; rintro v_1_7 _ _ a w ⟨rfl, rfl⟩ hF hS
       refine ⟨⟨.inr (hS.k1 (sQ.n.n.n.n.n)), .inr hS.k0, iQ, iQ, iQ, iQ, trivial⟩, ?_⟩
       refine gQ 11 rfl rfl hF hS rfl (ef_append ty23 ty4 0 rfl rfl rfl (src_slV ty23 hz zin0) bQ rfl (by decide)) ?_
       clear hF hS; rintro v_1_11 _ _ a w ⟨rfl, rfl⟩ hF hS
       refine ⟨⟨iQ, iQ, iQ, iQ, iQ, iQ, trivial⟩, ?_⟩
       refine goW_take 12 _ rfl kQ rfl hF (hS.keep sQ (zQ.k.k.k)) (q_buildS1 ty67 3 kQ rfl rfl (oc_cons (row_one (hS.own _ (List.mem_of_getElem? (i := 2) rfl)).1) (oc_cons (row_one (hS.own _ (List.mem_of_getElem? (i := 1) rfl)).1) (oc_cons (row_one (hS.own _ (List.mem_of_getElem? (i := 0) rfl)).1) oc_nil))) rfl rfl) ?_
       clear hF; intro a hF
       refine gQ 14 rfl rfl hF hS rfl (ef_storeW ty67 3 rfl rfl rfl rfl bQ (oc_cons (row_one (hS.own _ (List.mem_of_getElem? (i := 2) rfl)).1) (oc_cons (row_one (hS.own _ (List.mem_of_getElem? (i := 1) rfl)).1) (oc_cons (row_one (hS.own _ (List.mem_of_getElem? (i := 0) rfl)).1) oc_nil))) bQ) ?_
       clear hF hS; rintro _ _ _ a w ⟨rfl, rfl, rfl⟩ hF hS
       refine ⟨⟨iQ, iQ, iQ, iQ, iQ, iQ, iQ, trivial⟩, ?_⟩
       exact goW_done kQ (j7_mk v_1_0 v_1_3 v_1_4 v_1_7 v_1_8 v_1_11 b_1_13 (trivial) (hF.sub (L' := [(1, _), (2, _), (6, _), (7, _)]) ⟨rfl, rfl, rfl, rfl, trivial⟩) (((hS.perm (.cons _ (.cons _ (.swap _ _ _)))).perm (.cons _ (.swap _ _ _))).perm (.swap _ _ _)))
     ·refine stepW_ef _ rfl rfl hF hS rfl (ef_bslice0 ty23 ty4) ?_
      clear hF hS; rintro v_1_8 _ _ a w ⟨rfl, rfl⟩ hF hS
      refine ⟨⟨.inr (hS.k1 (sQ.n.n.n.n.n)), .inr hS.k0, .inr (hS.k1 (sQ.n.n.n.n.n)), .inr hS.k0, .inr (hS.k1 (sQ.n.n.n.n.n)), .inr hS.k0, trivial⟩, ?_⟩
      refine gQ 3 rfl rfl hF hS rfl (ef_append ty22 ty3 2 rfl rfl rfl (src_slV ty22 hx zin0) bQ rfl (by decide)) ?_
      clear hF hS; rintro v_1_3 _ _ a w ⟨rfl, rfl⟩ hF hS
      refine ⟨⟨.inr (hS.k1 (sQ.n.n.n.n.n)), .inr hS.k0, .inr (hS.k1 (sQ.n.n.n.n.n)), .inr hS.k0, iQ, iQ, trivial⟩, ?_⟩
      refine gQ 7 rfl rfl hF hS rfl (ef_append ty22 ty3 1 rfl rfl rfl (src_slV ty22 hy zin0) bQ rfl (by decide)) ?_
      clear hF hS; rintro v_1_7 _ _ a w ⟨rfl, rfl⟩ hF hS
      refine ⟨⟨.inr (hS.k1 (sQ.n.n.n.n.n)), .inr hS.k0, iQ, iQ, iQ, iQ, trivial⟩, ?_⟩
      refine gQ 11 rfl rfl hF hS rfl (ef_append ty23 ty4 0 rfl rfl rfl (src_slV ty23 hz zin0) bQ rfl (by decide)) ?_
      clear hF hS; rintro v_1_11 _ _ a w ⟨rfl, rfl⟩ hF hS
      refine ⟨⟨iQ, iQ, iQ, iQ, iQ, iQ, trivial⟩, ?_⟩
      refine goW_take 12 _ rfl kQ rfl hF (hS.keep sQ (zQ.k.k.k)) (q_buildS1 ty67 3 kQ rfl rfl (oc_cons (row_one (hS.own _ (List.mem_of_getElem? (i := 2) rfl)).1) (oc_cons (row_one (hS.own _ (List.mem_of_getElem? (i := 1) rfl)).1) (oc_cons (row_one (hS.own _ (List.mem_of_getElem? (i := 0) rfl)).1) oc_nil))) rfl rfl) ?_
      clear hF; intro a hF
      refine gQ 14 rfl rfl hF hS rfl (ef_storeW ty67 3 rfl rfl rfl rfl bQ (oc_cons (row_one (hS.own _ (List.mem_of_getElem? (i := 2) rfl)).1) (oc_cons (row_one (hS.own _ (List.mem_of_getElem? (i := 1) rfl)).1) (oc_cons (row_one (hS.own _ (List.mem_of_getElem? (i := 0) rfl)).1) oc_nil))) bQ) ?_
      clear hF hS; rintro _ _ _ a w ⟨rfl, rfl, rfl⟩ hF hS
      refine ⟨⟨iQ, iQ, iQ, iQ, iQ, iQ, iQ, trivial⟩, ?_⟩
      exact goW_done kQ (j7_mk v_1_0 v_1_3 v_1_4 v_1_7 v_1_8 v_1_11 b_1_13 (trivial) (hF.sub (L' := [(1, _), (2, _), (6, _), (7, _)]) ⟨rfl, rfl, rfl, rfl, trivial⟩) (((hS.perm (.cons _ (.cons _ (.swap _ _ _)))).perm (.cons _ (.swap _ _ _))).perm (.swap _ _ _)))
    ·refine stepW_ef _ rfl rfl hF hS rfl (ef_bslice0 ty23 ty4) ?_
     clear hF hS; rintro v_1_8 _ _ a w ⟨rfl, rfl⟩ hF hS
     refine ⟨⟨.inr (hS.k1 (sQ.n.n.n.n)), .inr hS.k0, .inr (hS.k1 (sQ.n.n.n.n)), .inr hS.k0, .inr (hS.k1 (sQ.n.n.n.n)), .inr hS.k0, trivial⟩, ?_⟩
     refine goW_fork [3, 4] kQ rfl ⟨?_, ?_, trivial⟩
     ·refine stepW_ef _ rfl rfl hF hS rfl (ef_append ty22 ty3 1 rfl rfl rfl (src_slV ty22 hx zin0) bQ rfl (by decide)) ?_
      clear hF hS; rintro v_1_3 _ _ a w ⟨rfl, rfl⟩ hF hS
      refine ⟨⟨.inr (hS.k1 (sQ.n.n.n.n)), .inr hS.k0, .inr (hS.k1 (sQ.n.n.n.n)), .inr hS.k0, iQ, iQ, trivial⟩, ?_⟩
      refine gQ 4 rfl rfl hF hS rfl (ef_bslice0 ty22 ty3) ?_
      clear hF hS; rintro v_1_4 _ _ a w ⟨rfl, rfl⟩ hF hS
      refine ⟨⟨.inr (hS.k1 (sQ.n.n.n.n.n)), .inr hS.k0, .inr (hS.k1 (sQ.n.n.n.n.n)), .inr hS.k0, iQ, iQ, trivial⟩, ?_⟩
      refine gQ 7 rfl rfl hF hS rfl (ef_append ty22 ty3 0 rfl rfl rfl (src_slV ty22 hy zin0) bQ rfl (by decide)) ?_
      clear hF hS; rintro v_1_7 _ _ a w ⟨rfl, rfl⟩ hF hS
      refine ⟨⟨.inr (hS.k1 (sQ.n.n.n.n.n)), .inr hS.k0, iQ, iQ, iQ, iQ, trivial⟩, ?_⟩
      refine gQ 11 rfl rfl hF hS rfl (ef_append ty23 ty4 1 rfl rfl rfl (src_slV ty23 hz zin0) bQ rfl (by decide)) ?_
      clear hF hS; rintro v_1_11 _ _ a w ⟨rfl, rfl⟩ hF hS
      refine ⟨⟨iQ, iQ, iQ, iQ, iQ, iQ, trivial⟩, ?_⟩
      refine goW_take 12 _ rfl kQ rfl hF (hS.keep sQ (zQ.k.k.k)) (q_buildS1 ty67 3 kQ rfl rfl (oc_cons (row_one (hS.own _ (List.mem_of_getElem? (i := 2) rfl)).1) (oc_cons (row_one (hS.own _ (List.mem_of_getElem? (i := 0) rfl)).1) (oc_cons (row_one (hS.own _ (List.mem_of_getElem? (i := 1) rfl)).1) oc_nil))) rfl rfl) ?_
      clear hF; intro a hF
      refine gQ 14 rfl rfl hF hS rfl (ef_storeW ty67 3 rfl rfl rfl rfl bQ (oc_cons (row_one (hS.own _ (List.mem_of_getElem? (i := 2) rfl)).1) (oc_cons (row_one (hS.own _ (List.mem_of_getElem? (i := 0) rfl)).1) (oc_cons (row_one (hS.own _ (List.mem_of_getElem? (i := 1) rfl)).1) oc_nil))) bQ) ?_
      clear hF hS; rintro _ _ _ a w ⟨rfl, rfl, rfl⟩ hF hS
      refine ⟨⟨iQ, iQ, iQ, iQ, iQ, iQ, iQ, trivial⟩, ?_⟩
      exact goW_done kQ (j7_mk v_1_0 v_1_3 v_1_4 v_1_7 v_1_8 v_1_11 b_1_13 (trivial) (hF.sub (L' := [(1, _), (2, _), (6, _), (7, _)]) ⟨rfl, rfl, rfl, rfl, trivial⟩) ((((hS.perm (.cons _ (.cons _ (.swap _ _ _)))).perm (.cons _ (.swap _ _ _))).perm (.swap _ _ _)).perm (.cons _ (.swap _ _ _))))
     ·refine stepW_ef _ rfl rfl hF hS rfl (ef_bslice0 ty22 ty3) ?_
      clear hF hS; rintro v_1_4 _ _ a w ⟨rfl, rfl⟩ hF hS
      refine ⟨⟨.inr (hS.k1 (sQ.n.n.n.n.n)), .inr hS.k0, .inr (hS.k1 (sQ.n.n.n.n.n)), .inr hS.k0, .inr (hS.k1 (sQ.n.n.n.n.n)), .inr hS.k0, trivial⟩, ?_⟩
      refine gQ 3 rfl rfl hF hS rfl (ef_append ty22 ty3 2 rfl rfl rfl (src_slV ty22 hx zin0) bQ rfl (by decide)) ?_
      clear hF hS; rintro v_1_3 _ _ a w ⟨rfl, rfl⟩ hF hS
      refine ⟨⟨.inr (hS.k1 (sQ.n.n.n.n.n)), .inr hS.k0, .inr (hS.k1 (sQ.n.n.n.n.n)), .inr hS.k0, iQ, iQ, trivial⟩, ?_⟩
      refine gQ 7 rfl rfl hF hS rfl (ef_append ty22 ty3 0 rfl rfl rfl (src_slV ty22 hy zin0) bQ rfl (by decide)) ?_
      clear hF hS; rintro v_1_7 _ _ a w ⟨rfl, rfl⟩ hF hS
      refine ⟨⟨.inr (hS.k1 (sQ.n.n.n.n.n)), .inr hS.k0, iQ, iQ, iQ, iQ, trivial⟩, ?_⟩
      refine gQ 11 rfl rfl hF hS rfl (ef_append ty23 ty4 1 rfl rfl rfl (src_slV ty23 hz zin0) bQ rfl (by decide)) ?_
      clear hF hS; rintro v_1_11 _ _ a w ⟨rfl, rfl⟩ hF hS
      refine ⟨⟨iQ, iQ, iQ, iQ, iQ, iQ, trivial⟩, ?_⟩
      refine goW_take 12 _ rfl kQ rfl hF (hS.keep sQ (zQ.k.k.k)) (q_buildS1 ty67 3 kQ rfl rfl (oc_cons (row_one (hS.own _ (List.mem_of_getElem? (i := 2) rfl)).1) (oc_cons (row_one (hS.own _ (List.mem_of_getElem? (i := 0) rfl)).1) (oc_cons (row_one (hS.own _ (List.mem_of_getElem? (i := 1) rfl)).1) oc_nil))) rfl rfl) ?_
      clear hF; intro a hF
      refine gQ 14 rfl rfl hF hS rfl (ef_storeW ty67 3 rfl rfl rfl rfl bQ (oc_cons (row_one (hS.own _ (List.mem_of_getElem? (i := 2) rfl)).1) (oc_cons (row_one (hS.own _ (List.mem_of_getElem? (i := 0) rfl)).1) (oc_cons (row_one (hS.own _ (List.mem_of_getElem? (i := 1) rfl)).1) oc_nil))) bQ) ?_
      clear hF hS; rintro _ _ _ a w ⟨rfl, rfl, rfl⟩ hF hS
      refine ⟨⟨iQ, iQ, iQ, iQ, iQ, iQ, iQ, trivial⟩, ?_⟩
      exact goW_done kQ (j7_mk v_1_0 v_1_3 v_1_4 v_1_7 v_1_8 v_1_11 b_1_13 (trivial) (hF.sub (L' := [(1, _), (2, _), (6, _), (7, _)]) ⟨rfl, rfl, rfl, rfl, trivial⟩) ((((hS.perm (.cons _ (.cons _ (.swap _ _ _)))).perm (.cons _ (.swap _ _ _))).perm (.swap _ _ _)).perm (.cons _ (.swap _ _ _))))
   ·refine stepW_ef _ rfl rfl hF hS rfl (ef_bslice0 ty22 ty3) ?_
    clear hF hS; rintro v_1_4 _ _ a w ⟨rfl, rfl⟩ hF hS
    refine ⟨⟨.inr (hS.k1 (sQ.n.n.n)), .inr hS.k0, .inr (hS.k1 (sQ.n.n.n)), .inr hS.k0, .inr (hS.k1 (sQ.n.n.n)), .inr hS.k0, trivial⟩, ?_⟩
    refine goW_fork [0, 8] kQ rfl ⟨?_, ?_, trivial⟩
    ·refine stepW_ef _ rfl rfl hF hS rfl (ef_bslice0 ty22 ty3) ?_
     clear hF hS; rintro v_1_0 _ _ a w ⟨rfl, rfl⟩ hF hS
     refine ⟨⟨.inr (hS.k1 (sQ.n.n.n.n)), .inr hS.k0, .inr (hS.k1 (sQ.n.n.n.n)), .inr hS.k0, .inr (hS.k1 (sQ.n.n.n.n)), .inr hS.k0, trivial⟩, ?_⟩
     refine goW_fork [3, 8] kQ rfl ⟨?_, ?_, trivial⟩
     ·refine stepW_ef _ rfl rfl hF hS rfl (ef_append ty22 ty3 0 rfl rfl rfl (src_slV ty22 hx zin0) bQ rfl (by decide)) ?_
      clear hF hS; rintro v_1_3 _ _ a w ⟨rfl, rfl⟩ hF hS
      refine ⟨⟨.inr (hS.k1 (sQ.n.n.n.n)), .inr hS.k0, .inr (hS.k1 (sQ.n.n.n.n)), .inr hS.k0, iQ, iQ, trivial⟩, ?_⟩
      refine goW_fork [7, 8] kQ rfl ⟨?_, ?_, trivial⟩
      ·refine stepW_ef _ rfl rfl hF hS rfl (ef_append ty22 ty3 1 rfl rfl rfl (src_slV ty22 hy zin0) bQ rfl (by decide)) ?_
       clear hF hS; rintro v_1_7 _ _ a w ⟨rfl, rfl⟩ hF hS
       refine ⟨⟨.inr (hS.k1 (sQ.n.n.n.n)), .inr hS.k0, iQ, iQ, iQ, iQ, trivial⟩, ?_⟩
       refine gQ 8 rfl rfl hF hS rfl (ef_bslice0 ty23 ty4) ?_
       clear hF hS; rintro v_1_8 _ _ a w ⟨rfl, rfl⟩ hF hS
       refine ⟨⟨.inr (hS.k1 (sQ.n.n.n.n.n)), .inr hS.k0, iQ, iQ, iQ, iQ, trivial⟩, ?_⟩
       refine gQ 11 rfl rfl hF hS rfl (ef_append ty23 ty4 0 rfl rfl rfl (src_slV ty23 hz zin0) bQ rfl (by decide)) ?_
       clear hF hS; rintro v_1_11 _ _ a w ⟨rfl, rfl⟩ hF hS
       refine ⟨⟨iQ, iQ, iQ, iQ, iQ, iQ, trivial⟩, ?_⟩
       refine goW_take 12 _ rfl kQ rfl hF (hS.keep sQ (zQ.k.k.k)) (q_buildS1 ty67 3 kQ rfl rfl (oc_cons (row_one (hS.own _ (List.mem_of_getElem? (i := 1) rfl)).1) (oc_cons (row_one (hS.own _ (List.mem_of_getElem? (i := 2) rfl)).1) (oc_cons (row_one (hS.own _ (List.mem_of_getElem? (i := 0) rfl)).1) oc_nil))) rfl rfl) ?_
       clear hF; intro a hF
       refine gQ 14 rfl rfl hF hS rfl (ef_storeW ty67 3 rfl rfl rfl rfl bQ (oc_cons (row_one (hS.own _ (List.mem_of_getElem? (i := 1) rfl)).1) (oc_cons (row_one (hS.own _ (List.mem_of_getElem? (i := 2) rfl)).1) (oc_cons (row_one (hS.own _ (List.mem_of_getElem? (i := 0) rfl)).1) oc_nil))) bQ) ?_
       clear hF hS; rintro _ _ _ a w ⟨rfl, rfl, rfl⟩ hF hS
       refine ⟨⟨iQ, iQ, iQ, iQ, iQ, iQ, iQ, trivial⟩, ?_⟩
       exact goW_done kQ (j7_mk v_1_0 v_1_3 v_1_4 v_1_7 v_1_8 v_1_11 b_1_13 (trivial) (hF.sub (L' := [(1, _), (2, _), (6, _), (7, _)]) ⟨rfl, rfl, rfl, rfl, trivial⟩) ((((hS.perm (.cons _ (.cons _ (.swap _ _ _)))).perm (.cons _ (.swap _ _ _))).perm (.swap _ _ _)).perm (.cons _ (.cons _ (.swap _ _ _)))))
      ·refine stepW_ef _ rfl rfl hF hS rfl (ef_bslice0 ty23 ty4) ?_
       clear hF hS; rintro v_1_8 _ _ a w ⟨rfl, rfl⟩ hF hS
       refine ⟨⟨.inr (hS.k1 (sQ.n.n.n.n.n)), .inr hS.k0, .inr (hS.k1 (sQ.n.n.n.n.n)), .inr hS.k0, iQ, iQ, trivial⟩, ?_⟩
       refine gQ 7 rfl rfl hF hS rfl (ef_append ty22 ty3 2 rfl rfl rfl (src_slV ty22 hy zin0) bQ rfl (by decide)) ?_
       clear hF hS; rintro v_1_7 _ _ a w ⟨rfl, rfl⟩ hF hS
       refine ⟨⟨.inr (hS.k1 (sQ.n.n.n.n.n)), .inr hS.k0, iQ, iQ, iQ, iQ, trivial⟩, ?_⟩
       refine gQ 11 rfl rfl hF hS rfl (ef_append ty23 ty4 0 rfl rfl rfl (src_slV ty23 hz zin0) bQ rfl (by decide)) ?_
       clear hF hS; rintro v_1_11 _ _ a w ⟨rfl, rfl⟩ hF hS
       refine ⟨⟨iQ, iQ, iQ, iQ, iQ, iQ, trivial⟩, ?_⟩
       refine goW_take 12 _ rfl kQ rfl hF (hS.keep sQ (zQ.k.k.k)) (q_buildS1 ty67 3 kQ rfl rfl (oc_cons (row_one (hS.own _ (List.mem_of_getElem? (i := 1) rfl)).1) (oc_cons (row_one (hS.own _ (List.mem_of_getElem? (i := 2) rfl)).1) (oc_cons (row_one (hS.own _ (List.mem_of_getElem? (i := 0) rfl)).1) oc_nil))) rfl rfl) ?_
       clear hF; intro a hF
       refine gQ 14 rfl rfl hF hS rfl (ef_storeW ty67 3 rfl rfl rfl rfl bQ (oc_cons (row_one (hS.own _ (List.mem_of_getElem? (i := 1) rfl)).1) (oc_cons (row_one (hS.own _ (List.mem_of_getElem? (i := 2) rfl)).1) (oc_cons (row_one (hS.own _ (List.mem_of_getElem? (i := 0) rfl)).1) oc_nil))) bQ) ?_
       clear hF hS; rintro _ _ _ a w ⟨rfl, rfl, rfl⟩ hF hS
       refine ⟨⟨iQ, iQ, iQ, iQ, iQ, iQ, iQ, trivial⟩, ?_⟩
       exact goW_done kQ (j7_mk v_1_0 v_1_3 v_1_4 v_1_7 v_1_8 v_1_11 b_1_13 (trivial) (hF.sub (L' := [(1, _), (2, _), (6, _), (7, _)]) ⟨rfl, rfl, rfl, rfl, trivial⟩) ((((hS.perm (.cons _ (.cons _ (.swap _ _ _)))).perm (.cons _ (.swap _ _ _))).perm (.swap _ _ _)).perm (.cons _ (.cons _ (.swap _ _ _)))))
     ·refine stepW_ef _ rfl rfl hF hS rfl (ef_bslice0 ty23 ty4) ?_
      clear hF hS; rintro v_1_8 _ _ a w ⟨rfl, rfl⟩ hF hS
      refine ⟨⟨.inr (hS.k1 (sQ.n.n.n.n.n)), .inr hS.k0, .inr (hS.k1 (sQ.n.n.n.n.n)), .inr hS.k0, .inr (hS.k1 (sQ.n.n.n.n.n)), .inr hS.k0, trivial⟩, ?_⟩
      refine gQ 3 rfl rfl hF hS rfl (ef_append ty22 ty3 1 rfl rfl rfl (src_slV ty22 hx zin0) bQ rfl (by decide)) ?_
      clear hF hS; rintro v_1_3 _ _ a w ⟨rfl, rfl⟩ hF hS
      refine ⟨⟨.inr (hS.k1 (sQ.n.n.n.n.n)), .inr hS.k0, .inr (hS.k1 (sQ.n.n.n.n.n)), .inr hS.k0, iQ, iQ, trivial⟩, ?_⟩
      refine gQ 7 rfl rfl hF hS rfl (ef_append ty22 ty3 2 rfl rfl rfl (src_slV ty22 hy zin0) bQ rfl (by decide)) ?_
      clear hF hS; rintro v_1_7 _ _ a w ⟨rfl, rfl⟩ hF hS
      refine ⟨⟨.inr (hS.k1 (sQ.n.n.n.n.n)), .inr hS.k0, iQ, iQ, iQ, iQ, trivial⟩, ?_⟩
      refine gQ 11 rfl rfl hF hS rfl (ef_append ty23 ty4 0 rfl rfl rfl (src_slV ty23 hz zin0) bQ rfl (by decide)) ?_
      clear hF hS; rintro v_1_11 _ _ a w ⟨rfl, rfl⟩ hF hS
      refine ⟨⟨iQ, iQ, iQ, iQ, iQ, iQ, trivial⟩, ?_⟩
      refine goW_take 12 _ rfl kQ rfl hF (hS.keep sQ (zQ.k.k.k)) (q_buildS1 ty67 3 kQ rfl rfl (oc_cons (row_one (hS.own _ (List.mem_of_getElem? (i := 1) rfl)).1) (oc_cons (row_one (hS.own _ (List.mem_of_getElem? (i := 2) rfl)).1) (oc_cons (row_one (hS.own _ (List.mem_of_getElem? (i := 0) rfl)).1) oc_nil))) rfl rfl) ?_
      clear hF; intro a hF
      refine gQ 14 rfl rfl hF hS rfl (ef_storeW ty67 3 rfl rfl rfl rfl bQ (oc_cons (row_one (hS.own _ (List.mem_of_getElem? (i := 1) rfl)).1) (oc_cons (row_one (hS.own _ (List.mem_of_getElem? (i := 2) rfl)).1) (oc_cons (row_one (hS.own _ (List.mem_of_getElem? (i := 0) rfl)).1) oc_nil))) bQ) ?_
      clear hF hS; rintro _ _ _ a w ⟨rfl, rfl, rfl⟩ hF hS
      refine ⟨⟨iQ, iQ, iQ, iQ, iQ, iQ, iQ, trivial⟩, ?_⟩
      exact goW_done kQ (j7_mk v_1_0 v_1_3 v_1_4 v_1_7 v_1_8 v_1_11 b_1_13 (trivial) (hF.sub (L' := [(1, _), (2, _), (6, _), (7, _)]) ⟨rfl, rfl, rfl, rfl, trivial⟩) ((((hS.perm (.cons _ (.cons _ (.swap _ _ _)))).perm (.cons _ (.swap _ _ _))).perm (.swap _ _ _)).perm (.cons _ (.cons _ (.swap _ _ _)))))
    ·refine stepW_ef _ rfl rfl hF hS rfl (ef_bslice0 ty23 ty4) ?_
     clear hF hS; rintro v_1_8 _ _ a w ⟨rfl, rfl⟩ hF hS
     refine ⟨⟨.inr (hS.k1 (sQ.n.n.n.n)), .inr hS.k0, .inr (hS.k1 (sQ.n.n.n.n)), .inr hS.k0, .inr (hS.k1 (sQ.n.n.n.n)), .inr hS.k0, trivial⟩, ?_⟩
     refine gQ 0 rfl rfl hF hS rfl (ef_bslice0 ty22 ty3) ?_
     clear hF hS; rintro v_1_0 _ _ a w ⟨rfl, rfl⟩ hF hS
     refine ⟨⟨.inr (hS.k1 (sQ.n.n.n.n.n)), .inr hS.k0, .inr (hS.k1 (sQ.n.n.n.n.n)), .inr hS.k0, .inr (hS.k1 (sQ.n.n.n.n.n)), .inr hS.k0, trivial⟩, ?_⟩
     refine gQ 3 rfl rfl hF hS rfl (ef_append ty22 ty3 0 rfl rfl rfl (src_slV ty22 hx zin0) bQ rfl (by decide)) ?_
     clear hF hS; rintro v_1_3 _ _ a w ⟨rfl, rfl⟩ hF hS
     refine ⟨⟨.inr (hS.k1 (sQ.n.n.n.n.n)), .inr hS.k0, .inr (hS.k1 (sQ.n.n.n.n.n)), .inr hS.k0, iQ, iQ, trivial⟩, ?_⟩
     refine gQ 7 rfl rfl hF hS rfl (ef_append ty22 ty3 2 rfl rfl rfl (src_slV ty22 hy zin0) bQ rfl (by decide)) ?_
     clear hF hS; rintro v_1_7 _ _ a w ⟨rfl, rfl⟩ hF hS
     refine ⟨⟨.inr (hS.k1 (sQ.n.n.n.n.n)), .inr hS.k0, iQ, iQ, iQ, iQ, trivial⟩, ?_⟩
     refine gQ 11 rfl rfl hF hS rfl (ef_append ty23 ty4 1 rfl rfl rfl (src_slV ty23 hz zin0) bQ rfl (by decide)) ?_
     clear hF hS; rintro v_1_11 _ _ a w ⟨rfl, rfl⟩ hF hS
     refine ⟨⟨iQ, iQ, iQ, iQ, iQ, iQ, trivial⟩, ?_⟩
     refine goW_take 12 _ rfl kQ rfl hF (hS.keep sQ (zQ.k.k.k)) (q_buildS1 ty67 3 kQ rfl rfl (oc_cons (row_one (hS.own _ (List.mem_of_getElem? (i := 0) rfl)).1) (oc_cons (row_one (hS.own _ (List.mem_of_getElem? (i := 2) rfl)).1) (oc_cons (row_one (hS.own _ (List.mem_of_getElem? (i := 1) rfl)).1) oc_nil))) rfl rfl) ?_
     clear hF; intro a hF
     refine gQ 14 rfl rfl hF hS rfl (ef_storeW ty67 3 rfl rfl rfl rfl bQ (oc_cons (row_one (hS.own _ (List.mem_of_getElem? (i := 0) rfl)).1) (oc_cons (row_one (hS.own _ (List.mem_of_getElem? (i := 2) rfl)).1) (oc_cons (row_one (hS.own _ (List.mem_of_getElem? (i := 1) rfl)).1) oc_nil))) bQ) ?_
     clear hF hS; rintro _ _ _ a w ⟨rfl, rfl, rfl⟩ hF hS
     refine ⟨⟨iQ, iQ, iQ, iQ, iQ, iQ, iQ, trivial⟩, ?_⟩
     exact goW_done kQ (j7_mk v_1_0 v_1_3 v_1_4 v_1_7 v_1_8 v_1_11 b_1_13 (trivial) (hF.sub (L' := [(1, _), (2, _), (6, _), (7, _)]) ⟨rfl, rfl, rfl, rfl, trivial⟩) (((((hS.perm (.cons _ (.cons _ (.swap _ _ _)))).perm (.cons _ (.swap _ _ _))).perm (.swap _ _ _)).perm (.cons _ (.swap _ _ _))).perm (.cons _ (.cons _ (.swap _ _ _)))))
   ·refine stepW_ef _ rfl rfl hF hS rfl (ef_bslice0 ty23 ty4) ?_
    clear hF hS; rintro v_1_8 _ _ a w ⟨rfl, rfl⟩ hF hS
    refine ⟨⟨.inr (hS.k1 (sQ.n.n.n)), .inr hS.k0, .inr (hS.k1 (sQ.n.n.n)), .inr hS.k0, .inr (hS.k1 (sQ.n.n.n)), .inr hS.k0, trivial⟩, ?_⟩
    refine goW_fork [0, 4] kQ rfl ⟨?_, ?_, trivial⟩
    ·refine stepW_ef _ rfl rfl hF hS rfl (ef_bslice0 ty22 ty3) ?_
     clear hF hS; rintro v_1_0 _ _ a w ⟨rfl, rfl⟩ hF hS
     refine ⟨⟨.inr (hS.k1 (sQ.n.n.n.n)), .inr hS.k0, .inr (hS.k1 (sQ.n.n.n.n)), .inr hS.k0, .inr (hS.k1 (sQ.n.n.n.n)), .inr hS.k0, trivial⟩, ?_⟩
     refine goW_fork [3, 4] kQ rfl ⟨?_, ?_, trivial⟩
     ·refine stepW_ef _ rfl rfl hF hS rfl (ef_append ty22 ty3 0 rfl rfl rfl (src_slV ty22 hx zin0) bQ rfl (by decide)) ?_
      clear hF hS; rintro v_1_3 _ _ a w ⟨rfl, rfl⟩ hF hS
      refine ⟨⟨.inr (hS.k1 (sQ.n.n.n.n)), .inr hS.k0, .inr (hS.k1 (sQ.n.n.n.n)), .inr hS.k0, iQ, iQ, trivial⟩, ?_⟩
      refine gQ 4 rfl rfl hF hS rfl (ef_bslice0 ty22 ty3) ?_
      clear hF hS; rintro v_1_4 _ _ a w ⟨rfl, rfl⟩ hF hS
      refine ⟨⟨.inr (hS.k1 (sQ.n.n.n.n.n)), .inr hS.k0, .inr (hS.k1 (sQ.n.n.n.n.n)), .inr hS.k0, iQ, iQ, trivial⟩, ?_⟩
      refine gQ 7 rfl rfl hF hS rfl (ef_append ty22 ty3 0 rfl rfl rfl (src_slV ty22 hy zin0) bQ rfl (by decide)) ?_
      clear hF hS; rintro v_1_7 _ _ a w ⟨rfl, rfl⟩ hF hS
      refine ⟨⟨.inr (hS.k1 (sQ.n.n.n.n.n)), .inr hS.k0, iQ, iQ, iQ, iQ, trivial⟩, ?_⟩
      refine gQ 11 rfl rfl hF hS rfl (ef_append ty23 ty4 2 rfl rfl rfl (src_slV ty23 hz zin0) bQ rfl (by decide)) ?_
      clear hF hS; rintro v_1_11 _ _ a w ⟨rfl, rfl⟩ hF hS
      refine ⟨⟨iQ, iQ, iQ, iQ, iQ, iQ, trivial⟩, ?_⟩
      refine goW_take 12 _ rfl kQ rfl hF (hS.keep sQ (zQ.k.k.k)) (q_buildS1 ty67 3 kQ rfl rfl (oc_cons (row_one (hS.own _ (List.mem_of_getElem? (i := 1) rfl)).1) (oc_cons (row_one (hS.own _ (List.mem_of_getElem? (i := 0) rfl)).1) (oc_cons (row_one (hS.own _ (List.mem_of_getElem? (i := 2) rfl)).1) oc_nil))) rfl rfl) ?_
      clear hF; intro a hF
      refine gQ 14 rfl rfl hF hS rfl (ef_storeW ty67 3 rfl rfl rfl rfl bQ (oc_cons (row_one (hS.own _ (List.mem_of_getElem? (i := 1) rfl)).1) (oc_cons (row_one (hS.own _ (List.mem_of_getElem? (i := 0) rfl)).1) (oc_cons (row_one (hS.own _ (List.mem_of_getElem? (i := 2) rfl)).1) oc_nil))) bQ) ?_
      clear hF hS; rintro _ _ _ a w ⟨rfl, rfl, rfl⟩ hF hS
      refine ⟨⟨iQ, iQ, iQ, iQ, iQ, iQ, iQ, trivial⟩, ?_⟩
      exact goW_done kQ (j7_mk v_1_0 v_1_3 v_1_4 v_1_7 v_1_8 v_1_11 b_1_13 (trivial) (hF.sub (L' := [(1, _), (2, _), (6, _), (7, _)]) ⟨rfl, rfl, rfl, rfl, trivial⟩) (((((hS.perm (.cons _ (.cons _ (.swap _ _ _)))).perm (.cons _ (.swap _ _ _))).perm (.swap _ _ _)).perm (.cons _ (.cons _ (.swap _ _ _)))).perm (.cons _ (.swap _ _ _))))
     ·refine stepW_ef _ rfl rfl hF hS rfl (ef_bslice0 ty22 ty3) ?_
      clear hF hS; rintro v_1_4 _ _ a w ⟨rfl, rfl⟩ hF hS
      refine ⟨⟨.inr (hS.k1 (sQ.n.n.n.n.n)), .inr hS.k0, .inr (hS.k1 (sQ.n.n.n.n.n)), .inr hS.k0, .inr (hS.k1 (sQ.n.n.n.n.n)), .inr hS.k0, trivial⟩, ?_⟩
      refine gQ 3 rfl rfl hF hS rfl (ef_append ty22 ty3 1 rfl rfl rfl (src_slV ty22 hx zin0) bQ rfl (by decide)) ?_
      clear hF hS; rintro v_1_3 _ _ a w ⟨rfl, rfl⟩ hF hS
      refine ⟨⟨.inr (hS.k1 (sQ.n.n.n.n.n)), .inr hS.k0, .inr (hS.k1 (sQ.n.n.n.n.n)), .inr hS.k0, iQ, iQ, trivial⟩, ?_⟩
      refine gQ 7 rfl rfl hF hS rfl (ef_append ty22 ty3 0 rfl rfl rfl (src_slV ty22 hy zin0) bQ rfl (by decide)) ?_
      clear hF hS; rintro v_1_7 _ _ a w ⟨rfl, rfl⟩ hF hS
      refine ⟨⟨.inr (hS.k1 (sQ.n.n.n.n.n)), .inr hS.k0, iQ, iQ, iQ, iQ, trivial⟩, ?_⟩
      refine gQ 11 rfl rfl hF hS rfl (ef_append ty23 ty4 2 rfl rfl rfl (src_slV ty23 hz zin0) bQ rfl (by decide)) ?_
      clear hF hS; rintro v_1_11 _ _ a w ⟨rfl, rfl⟩ hF hS
      refine ⟨⟨iQ, iQ, iQ, iQ, iQ, iQ, trivial⟩, ?_⟩
      refine goW_take 12 _ rfl kQ rfl hF (hS.keep sQ (zQ.k.k.k)) (q_buildS1 ty67 3 kQ rfl rfl (oc_cons (row_one (hS.own _ (List.mem_of_getElem? (i := 1) rfl)).1) (oc_cons (row_one (hS.own _ (List.mem_of_getElem? (i := 0) rfl)).1) (oc_cons (row_one (hS.own _ (List.mem_of_getElem? (i := 2) rfl)).1) oc_nil))) rfl rfl) ?_
      clear hF; intro a hF
      refine gQ 14 rfl rfl hF hS rfl (ef_storeW ty67 3 rfl rfl rfl rfl bQ (oc_cons (row_one (hS.own _ (List.mem_of_getElem? (i := 1) rfl)).1) (oc_cons (row_one (hS.own _ (List.mem_of_getElem? (i := 0) rfl)).1) (oc_cons (row_one (hS.own _ (List.mem_of_getElem? (i := 2) rfl)).1) oc_nil))) bQ) ?_
      clear hF hS; rintro _ _ _ a w ⟨rfl, rfl, rfl⟩ hF hS
      refine ⟨⟨iQ, iQ, iQ, iQ, iQ, iQ, iQ, trivial⟩, ?_⟩
      exact goW_done kQ (j7_mk v_1_0 v_1_3 v_1_4 v_1_7 v_1_8 v_1_11 b_1_13 (trivial) (hF.sub (L' := [(1, _), (2, _), (6, _), (7, _)]) ⟨rfl, rfl, rfl, rfl, trivial⟩) (((((hS.perm (.cons _ (.cons _ (.swap _ _ _)))).perm (.cons _ (.swap _ _ _))).perm (.swap _ _ _)).perm (.cons _ (.cons _ (.swap _ _ _)))).perm (.cons _ (.swap _ _ _))))
    ·refine stepW_ef _ rfl rfl hF hS rfl (ef_bslice0 ty22 ty3) ?_
     clear hF hS; rintro v_1_4 _ _ a w ⟨rfl, rfl⟩ hF hS
     refine ⟨⟨.inr (hS.k1 (sQ.n.n.n.n)), .inr hS.k0, .inr (hS.k1 (sQ.n.n.n.n)), .inr hS.k0, .inr (hS.k1 (sQ.n.n.n.n)), .inr hS.k0, trivial⟩, ?_⟩
     refine gQ 0 rfl rfl hF hS rfl (ef_bslice0 ty22 ty3) ?_
     clear hF hS; rintro v_1_0 _ _ a w ⟨rfl, rfl⟩ hF hS
     refine ⟨⟨.inr (hS.k1 (sQ.n.n.n.n.n)), .inr hS.k0, .inr (hS.k1 (sQ.n.n.n.n.n)), .inr hS.k0, .inr (hS.k1 (sQ.n.n.n.n.n)), .inr hS.k0, trivial⟩, ?_⟩
     refine gQ 3 rfl rfl hF hS rfl (ef_append ty22 ty3 0 rfl rfl rfl (src_slV ty22 hx zin0) bQ rfl (by decide)) ?_
     clear hF hS; rintro v_1_3 _ _ a w ⟨rfl, rfl⟩ hF hS
     refine ⟨⟨.inr (hS.k1 (sQ.n.n.n.n.n)), .inr hS.k0, .inr (hS.k1 (sQ.n.n.n.n.n)), .inr hS.k0, iQ, iQ, trivial⟩, ?_⟩
     refine gQ 7 rfl rfl hF hS rfl (ef_append ty22 ty3 1 rfl rfl rfl (src_slV ty22 hy zin0) bQ rfl (by decide)) ?_
     clear hF hS; rintro v_1_7 _ _ a w ⟨rfl, rfl⟩ hF hS
     refine ⟨⟨.inr (hS.k1 (sQ.n.n.n.n.n)), .inr hS.k0, iQ, iQ, iQ, iQ, trivial⟩, ?_⟩
     refine gQ 11 rfl rfl hF hS rfl (ef_append ty23 ty4 2 rfl rfl rfl (src_slV ty23 hz zin0) bQ rfl (by decide)) ?_
     clear hF hS; rintro v_1_11 _ _ a w ⟨rfl, rfl⟩ hF hS
     refine ⟨⟨iQ, iQ, iQ, iQ, iQ, iQ, trivial⟩, ?_⟩
     refine goW_take 12 _ rfl kQ rfl hF (hS.keep sQ (zQ.k.k.k)) (q_buildS1 ty67 3 kQ rfl rfl (oc_cons (row_one (hS.own _ (List.mem_of_getElem? (i := 0) rfl)).1) (oc_cons (row_one (hS.own _ (List.mem_of_getElem? (i := 1) rfl)).1) (oc_cons (row_one (hS.own _ (List.mem_of_getElem? (i := 2) rfl)).1) oc_nil))) rfl rfl) ?_
     clear hF; intro a hF
     refine gQ 14 rfl rfl hF hS rfl (ef_storeW ty67 3 rfl rfl rfl rfl bQ (oc_cons (row_one (hS.own _ (List.mem_of_getElem? (i := 0) rfl)).1) (oc_cons (row_one (hS.own _ (List.mem_of_getElem? (i := 1) rfl)).1) (oc_cons (row_one (hS.own _ (List.mem_of_getElem? (i := 2) rfl)).1) oc_nil))) bQ) ?_
     clear hF hS; rintro _ _ _ a w ⟨rfl, rfl, rfl⟩ hF hS
     refine ⟨⟨iQ, iQ, iQ, iQ, iQ, iQ, iQ, trivial⟩, ?_⟩
     exact goW_done kQ (j7_mk v_1_0 v_1_3 v_1_4 v_1_7 v_1_8 v_1_11 b_1_13 (trivial) (hF.sub (L' := [(1, _), (2, _), (6, _), (7, _)]) ⟨rfl, rfl, rfl, rfl, trivial⟩) ((((((hS.perm (.cons _ (.cons _ (.swap _ _ _)))).perm (.cons _ (.swap _ _ _))).perm (.swap _ _ _)).perm (.cons _ (.cons _ (.swap _ _ _)))).perm (.cons _ (.swap _ _ _))).perm (.cons _ (.cons _ (.swap _ _ _)))))
 rintro a w ⟨v_1_0, v_1_3, v_1_4, v_1_7, v_1_8, v_1_11, b_1_13, -, hF, hS⟩
 (try dsimp only at hF); (try dsimp only at hS)
 replace hS := hS.perm (.cons _ (.cons _ (.swap _ _ _)))
 replace hS := hS.perm (.cons _ (.swap _ _ _))
 replace hS := hS.perm (.swap _ _ _)
 replace hS := hS.rowEq (Nat.zero_add _) (List.nil_append _)
 replace hS : St _ [] [_, _, _, _, _, _] _ := hS
 replace hS := hS.perm (.cons _ (.cons _ (.swap _ _ _)))
 replace hS := hS.perm (.cons _ (.swap _ _ _))
 replace hS := hS.perm (.swap _ _ _)
 replace hS := hS.rowEq (Nat.zero_add _) (List.nil_append _)
 replace hS : St _ [] [_, _, _, _, _, _] _ := hS
 replace hS := hS.perm (.cons _ (.cons _ (.swap _ _ _)))
 replace hS := hS.perm (.cons _ (.swap _ _ _))
 replace hS := hS.perm (.swap _ _ _)
 replace hS := hS.rowEq (Nat.zero_add _) (List.nil_append _)
 replace hS : St _ [] [_, _, _, _, _, _] _ := hS
 refine hK2 _ _ ?_
 clear hK2
 refine wp_seq_k ?_; intro K3 hK3
 refine reg hF hS (sq rfl (q_move rfl) <|
   sq rfl (q_fieldAddr ty67 rfl rfl (s' := 0) kQ) <|
   sq rfl (q_ld_blk1 ty23 3 rfl rfl rfl rfl) <|
   sq rfl (q_len_row ty23 0 rfl rfl) <|
   sq rfl (q_max rfl rfl) <|
   sq rfl (q_call fn25 rfl (fun w hS => arnd_ct _ _ (by omega) (by omega) w ) (fun _ _ _ h => h)) <|
   sq rfl (q_assign rfl) <|
   sq_end) ?_
 clear hF hS; intro a w hF hS
 rw [← hbk] at hF
 refine hK3 _ _ ?_
 clear hK3
 refine wp_seq_k ?_; intro K4 hK4
 refine wp_seq_k ?_; intro K5 hK5
 refine reg hF hS (sq rfl (q_move rfl) <|
   sq rfl (q_call fn25 rfl (fun w hS => arnd_ct _ _ (by omega) (by omega) w ) (fun _ _ _ h => h)) <|
   sq_end) ?_
 clear hF hS; intro a w hF hS
 refine hK5 _ _ ?_
 clear hK5
 refine wp_block ?_
 refine wp_seq_k ?_; intro K6 hK6
 refine reg hF hS (sq rfl (q_eqi rfl rfl) <|
   sq rfl (q_assign rfl) <|
   sq_end) ?_
 clear hF hS; intro a w hF hS
 refine hK6 _ _ ?_
 clear hK6
 refine wp_ifd hF rfl (fun hc1 => ?_) (fun hc1 => ?_)
 ·refine wp_seq_k ?_; intro K7 hK7
  refine reg hF hS (sq rfl (q_move rfl) <|
    sq rfl (q_fieldAddr ty67 rfl rfl (s' := 0) kQ) <|
    sq rfl (q_ld_blk1 ty23 3 rfl rfl rfl rfl) <|
    sq rfl (q_len_row ty23 0 rfl rfl) <|
    sq rfl (q_lti rfl rfl) <|
    sq_end) ?_
  clear hF hS; intro a w hF hS
  refine hK7 _ _ ?_
  clear hK7
  refine wp_ifd hF rfl (fun hc2 => ?_) (fun hc2 => ?_)
  ·refine regt 10 mixed kQ hF hS (sq rfl (q_fieldAddr ty67 rfl rfl (s' := 0) kQ) <|
     sq rfl (q_ld_blk1 ty23 3 rfl rfl rfl rfl) <|
     sq rfl (q_move rfl) <|
     sq rfl (q_fieldAddr ty67 rfl rfl (s' := 0) kQ) <|
     sq rfl (q_ld_blk1 ty23 3 rfl rfl rfl rfl) <|
     sq rfl (q_move rfl) <|
     sq rfl (q_idx_row ty23 ty4 0 rfl rfl rfl (by omega)) <|
     sq rfl (q_ld_rowM ty4 0 false rfl rfl bQ rfl) <|
     sq rfl (q_not rfl) <|
     sq rfl (q_idx_row ty23 ty4 0 rfl rfl rfl (by omega)) <|
     sq_end) ?_
   clear hF hS; intro a w hF hS
   refine wpl_ef hF hS rfl (ef_st_row ty4 0 rfl rfl rfl (by omega) rfl) ?_
   clear hF hS; rintro _ _ _ a w ⟨rfl, rfl, rfl⟩ hF hS
   replace hS : St _ [] [_, _, _, _, _, _] _ := hS
   refine wpList_nil ?_
   refine hK4 _ _ ?_
   clear hK4
   refine wp_seq_k ?_; intro K8 hK8
   refine regl ?_
   refine wpl_sq hF hS (sq rfl (q_ld_blkW ty67 3 rfl rfl bQ rfl) <|
     sq_end) ?_
   clear hF hS; intro a w hF hS
   refine wpl_ef hF hS rfl (ef_storeW ty67 4 rfl rfl rfl rfl bQ (oc_cons (row_one (hS.own _ (List.mem_of_getElem? (i := 2) rfl)).1) (oc_cons (row_one (hS.own _ (List.mem_of_getElem? (i := 1) rfl)).1) (oc_cons (row_one (hS.own _ (List.mem_of_getElem? (i := 0) rfl)).1) oc_nil))) bQ) ?_
   clear hF hS; rintro _ _ _ a w ⟨rfl, rfl, rfl⟩ hF hS
   replace hS : St _ [] [_, _, _, _, _, _] _ := hS
   refine wpList_nil ?_
   refine hK8 _ _ ?_
   clear hK8
   refine wp_ret ?_
   replace hS := hS.perm (.cons _ (.swap _ _ _))
   replace hS := hS.perm (.swap _ _ _)
   obtain ⟨zs9, hzs9, hS⟩ := St.freezeV (h0 := fun _ => rfl) (f := vi) (p := fun x => -9223372036854775808 ≤ x ∧ x ≤ 9223372036854775807) (xs := S) (hS.rowEq (m' := List.length (S)) (cs' := List.map vi (S)) (by simp) (by simp [List.map_set, vt])) rfl (by first | omega | (simp; omega)) (hsr)
   replace hS := hS.perm (.swap _ _ _)
   obtain ⟨zf9, hzf9, hS⟩ := St.freezeV (h0 := fun _ => rfl) (f := vi) (p := fun x => -9223372036854775808 ≤ x ∧ x ≤ 9223372036854775807) (xs := F) (hS.rowEq (m' := List.length (F)) (cs' := List.map vi (F)) (by simp) (by simp [List.map_set, vt])) rfl (by first | omega | (simp; omega)) (hfr)
   obtain ⟨zb9, hzb9, hS⟩ := St.freezeV (h0 := fun _ => rfl) (f := vt) (p := fun _ => True) (xs := B.set (Gu.bK B b).toNat (!B.getD (Gu.bK B b).toNat false)) (hS.rowEq (m' := List.length (B.set (Gu.bK B b).toNat (!B.getD (Gu.bK B b).toNat false))) (cs' := List.map vt (B.set (Gu.bK B b).toNat (!B.getD (Gu.bK B b).toNat false))) (by simp) (by simp [List.map_set, vt])) rfl (by first | omega | (simp; omega)) (fun _ _ => trivial)
   obtain ⟨zu, hzu, hS⟩ := hS.union
   exact fn_ret (rs := [.cell 6 67]) rfl hF hS (vs := [_]) ⟨⟨_, _, _, _, _, _, _, rfl, List.mem_of_getElem? (i := 1) rfl, ty67, .inl ⟨rfl, bQ, rfl⟩⟩, trivial⟩ (zs' := [zu]) (hs' := []) (List.singleton_sublist.2 (by simp)) zQ (bent_of (S := S) (F := F) (B := B.set (Gu.bK B b).toNat (!B.getD (Gu.bK B b).toNat false)) ⟨_, _, _, zu, rfl, hzs9.mono (hzu _ (by simp)), hzf9.mono (hzu _ (by simp)), hzb9.mono (hzu _ (by simp)), rfl, rfl⟩ (Gu.bS_o (by omega) (by omega)) (Gu.bF_o (by omega) (by omega)) (Gu.bB_0 hc1 hc2))
  ·refine wp_skip ?_
   refine hK4 _ _ ?_
   clear hK4
   refine wp_seq_k ?_; intro K9 hK9
   refine regl ?_
   refine wpl_sq hF hS (sq rfl (q_ld_blkW ty67 3 rfl rfl bQ rfl) <|
     sq_end) ?_
   clear hF hS; intro a w hF hS
   refine wpl_ef hF hS rfl (ef_storeW ty67 4 rfl rfl rfl rfl bQ (oc_cons (row_one (hS.own _ (List.mem_of_getElem? (i := 2) rfl)).1) (oc_cons (row_one (hS.own _ (List.mem_of_getElem? (i := 1) rfl)).1) (oc_cons (row_one (hS.own _ (List.mem_of_getElem? (i := 0) rfl)).1) oc_nil))) bQ) ?_
   clear hF hS; rintro _ _ _ a w ⟨rfl, rfl, rfl⟩ hF hS
   replace hS : St _ [] [_, _, _, _, _, _] _ := hS
   refine wpList_nil ?_
   refine hK9 _ _ ?_
   clear hK9
   refine wp_ret ?_
   replace hS := hS.perm (.cons _ (.swap _ _ _))
   replace hS := hS.perm (.swap _ _ _)
   obtain ⟨zs9, hzs9, hS⟩ := St.freezeV (h0 := fun _ => rfl) (f := vi) (p := fun x => -9223372036854775808 ≤ x ∧ x ≤ 9223372036854775807) (xs := S) (hS.rowEq (m' := List.length (S)) (cs' := List.map vi (S)) (by simp) (by simp [List.map_set, vt])) rfl (by first | omega | (simp; omega)) (hsr)
   replace hS := hS.perm (.swap _ _ _)
   obtain ⟨zf9, hzf9, hS⟩ := St.freezeV (h0 := fun _ => rfl) (f := vi) (p := fun x => -9223372036854775808 ≤ x ∧ x ≤ 9223372036854775807) (xs := F) (hS.rowEq (m' := List.length (F)) (cs' := List.map vi (F)) (by simp) (by simp [List.map_set, vt])) rfl (by first | omega | (simp; omega)) (hfr)
   obtain ⟨zb9, hzb9, hS⟩ := St.freezeV (h0 := fun _ => rfl) (f := vt) (p := fun _ => True) (xs := B) (hS.rowEq (m' := List.length (B)) (cs' := List.map vt (B)) (by simp) (by simp [List.map_set, vt])) rfl (by first | omega | (simp; omega)) (fun _ _ => trivial)
   obtain ⟨zu, hzu, hS⟩ := hS.union
   exact fn_ret (rs := [.cell 6 67]) rfl hF hS (vs := [_]) ⟨⟨_, _, _, _, _, _, _, rfl, List.mem_of_getElem? (i := 1) rfl, ty67, .inl ⟨rfl, bQ, rfl⟩⟩, trivial⟩ (zs' := [zu]) (hs' := []) (List.singleton_sublist.2 (by simp)) zQ (bent_of (S := S) (F := F) (B := B) ⟨_, _, _, zu, rfl, hzs9.mono (hzu _ (by simp)), hzf9.mono (hzu _ (by simp)), hzb9.mono (hzu _ (by simp)), rfl, rfl⟩ (Gu.bS_o (by omega) (by omega)) (Gu.bF_o (by omega) (by omega)) (Gu.bB_0' hc1 hc2))
 ·refine wp_seq_k ?_; intro K10 hK10
  refine reg hF hS (sq rfl (q_eqi rfl rfl) <|
    sq rfl (q_assign rfl) <|
    sq_end) ?_
  clear hF hS; intro a w hF hS
  refine hK10 _ _ ?_
  clear hK10
  refine wp_ifd hF rfl (fun hc3 => ?_) (fun hc3 => ?_)
  ·refine wp_seq_k ?_; intro K11 hK11
   refine reg hF hS (sq rfl (q_move rfl) <|
     sq rfl (q_fieldAddr ty67 rfl rfl (s' := 0) kQ) <|
     sq rfl (q_ld_blk1 ty22 3 rfl rfl rfl rfl) <|
     sq rfl (q_len_row ty22 1 rfl rfl) <|
     sq rfl (q_lti rfl rfl) <|
     sq_end) ?_
   clear hF hS; intro a w hF hS
   refine hK11 _ _ ?_
   clear hK11
   refine wp_ifd hF rfl (fun hc4 => ?_) (fun hc4 => ?_)
   ·refine regt 11 mixed kQ hF hS (sq rfl (q_fieldAddr ty67 rfl rfl (s' := 0) kQ) <|
      sq rfl (q_ld_blk1 ty22 3 rfl rfl rfl rfl) <|
      sq rfl (q_move rfl) <|
      sq rfl (q_move rfl) <|
      sq rfl (q_fieldAddr ty67 rfl rfl (s' := 0) kQ) <|
      sq rfl (q_ld_blk1 ty22 3 rfl rfl rfl rfl) <|
      sq rfl (q_len_row ty22 1 rfl rfl) <|
      sq rfl (q_addi rfl rfl (by omega)) <|
      sq rfl (q_call fn25 rfl (fun w hS => arnd_ct _ _ (by omega) (by omega) w ) (fun _ _ _ h => h)) <|
      sq rfl (q_subi rfl rfl (by omega)) <|
      sq rfl (q_idx_row ty22 ty3 1 rfl rfl rfl (by omega)) <|
      sq_end) ?_
    clear hF hS; intro a w hF hS
    refine wpl_ef hF hS rfl (ef_st_row ty3 1 rfl rfl rfl (by omega) rfl) ?_
    clear hF hS; rintro _ _ _ a w ⟨rfl, rfl, rfl⟩ hF hS
    replace hS : St _ [] [_, _, _, _, _, _] _ := hS
    refine wpList_nil ?_
    refine hK4 _ _ ?_
    clear hK4
    refine wp_seq_k ?_; intro K12 hK12
    refine regl ?_
    refine wpl_sq hF hS (sq rfl (q_ld_blkW ty67 3 rfl rfl bQ rfl) <|
      sq_end) ?_
    clear hF hS; intro a w hF hS
    refine wpl_ef hF hS rfl (ef_storeW ty67 4 rfl rfl rfl rfl bQ (oc_cons (row_one (hS.own _ (List.mem_of_getElem? (i := 2) rfl)).1) (oc_cons (row_one (hS.own _ (List.mem_of_getElem? (i := 1) rfl)).1) (oc_cons (row_one (hS.own _ (List.mem_of_getElem? (i := 0) rfl)).1) oc_nil))) bQ) ?_
    clear hF hS; rintro _ _ _ a w ⟨rfl, rfl, rfl⟩ hF hS
    replace hS : St _ [] [_, _, _, _, _, _] _ := hS
    refine wpList_nil ?_
    refine hK12 _ _ ?_
    clear hK12
    refine wp_ret ?_
    replace hS := hS.perm (.cons _ (.swap _ _ _))
    replace hS := hS.perm (.swap _ _ _)
    obtain ⟨zs9, hzs9, hS⟩ := St.freezeV (h0 := fun _ => rfl) (f := vi) (p := fun x => -9223372036854775808 ≤ x ∧ x ≤ 9223372036854775807) (xs := S) (hS.rowEq (m' := List.length (S)) (cs' := List.map vi (S)) (by simp) (by simp [List.map_set, vt])) rfl (by first | omega | (simp; omega)) (hsr)
    replace hS := hS.perm (.swap _ _ _)
    obtain ⟨zf9, hzf9, hS⟩ := St.freezeV (h0 := fun _ => rfl) (f := vi) (p := fun x => -9223372036854775808 ≤ x ∧ x ≤ 9223372036854775807) (xs := F.set (Gu.bK B b).toNat (Gu.arnd b ((F.length : Int) + 2) - 1)) (hS.rowEq (m' := List.length (F.set (Gu.bK B b).toNat (Gu.arnd b ((F.length : Int) + 2) - 1))) (cs' := List.map vi (F.set (Gu.bK B b).toNat (Gu.arnd b ((F.length : Int) + 2) - 1))) (by simp) (by simp [List.map_set, vt])) rfl (by first | omega | (simp; omega)) (Gu.rg_set hfr (by omega))
    obtain ⟨zb9, hzb9, hS⟩ := St.freezeV (h0 := fun _ => rfl) (f := vt) (p := fun _ => True) (xs := B) (hS.rowEq (m' := List.length (B)) (cs' := List.map vt (B)) (by simp) (by simp [List.map_set, vt])) rfl (by first | omega | (simp; omega)) (fun _ _ => trivial)
    obtain ⟨zu, hzu, hS⟩ := hS.union
    exact fn_ret (rs := [.cell 6 67]) rfl hF hS (vs := [_]) ⟨⟨_, _, _, _, _, _, _, rfl, List.mem_of_getElem? (i := 1) rfl, ty67, .inl ⟨rfl, bQ, rfl⟩⟩, trivial⟩ (zs' := [zu]) (hs' := []) (List.singleton_sublist.2 (by simp)) zQ (bent_of (S := S) (F := F.set (Gu.bK B b).toNat (Gu.arnd b ((F.length : Int) + 2) - 1)) (B := B) ⟨_, _, _, zu, rfl, hzs9.mono (hzu _ (by simp)), hzf9.mono (hzu _ (by simp)), hzb9.mono (hzu _ (by simp)), rfl, rfl⟩ (Gu.bS_o (by omega) (by omega)) (Gu.bF_1 hc3 hc4) (Gu.bB_o (by omega) (by omega)))
   ·refine wp_skip ?_
    refine hK4 _ _ ?_
    clear hK4
    refine wp_seq_k ?_; intro K13 hK13
    refine regl ?_
    refine wpl_sq hF hS (sq rfl (q_ld_blkW ty67 3 rfl rfl bQ rfl) <|
      sq_end) ?_
    clear hF hS; intro a w hF hS
    refine wpl_ef hF hS rfl (ef_storeW ty67 4 rfl rfl rfl rfl bQ (oc_cons (row_one (hS.own _ (List.mem_of_getElem? (i := 2) rfl)).1) (oc_cons (row_one (hS.own _ (List.mem_of_getElem? (i := 1) rfl)).1) (oc_cons (row_one (hS.own _ (List.mem_of_getElem? (i := 0) rfl)).1) oc_nil))) bQ) ?_
    clear hF hS; rintro _ _ _ a w ⟨rfl, rfl, rfl⟩ hF hS
    replace hS : St _ [] [_, _, _, _, _, _] _ := hS
    refine wpList_nil ?_
    refine hK13 _ _ ?_
    clear hK13
    refine wp_ret ?_
    replace hS := hS.perm (.cons _ (.swap _ _ _))
    replace hS := hS.perm (.swap _ _ _)
    obtain ⟨zs9, hzs9, hS⟩ := St.freezeV (h0 := fun _ => rfl) (f := vi) (p := fun x => -9223372036854775808 ≤ x ∧ x ≤ 9223372036854775807) (xs := S) (hS.rowEq (m' := List.length (S)) (cs' := List.map vi (S)) (by simp) (by simp [List.map_set, vt])) rfl (by first | omega | (simp; omega)) (hsr)
    replace hS := hS.perm (.swap _ _ _)
    obtain ⟨zf9, hzf9, hS⟩ := St.freezeV (h0 := fun _ => rfl) (f := vi) (p := fun x => -9223372036854775808 ≤ x ∧ x ≤ 9223372036854775807) (xs := F) (hS.rowEq (m' := List.length (F)) (cs' := List.map vi (F)) (by simp) (by simp [List.map_set, vt])) rfl (by first | omega | (simp; omega)) (hfr)
    obtain ⟨zb9, hzb9, hS⟩ := St.freezeV (h0 := fun _ => rfl) (f := vt) (p := fun _ => True) (xs := B) (hS.rowEq (m' := List.length (B)) (cs' := List.map vt (B)) (by simp) (by simp [List.map_set, vt])) rfl (by first | omega | (simp; omega)) (fun _ _ => trivial)
    obtain ⟨zu, hzu, hS⟩ := hS.union
    exact fn_ret (rs := [.cell 6 67]) rfl hF hS (vs := [_]) ⟨⟨_, _, _, _, _, _, _, rfl, List.mem_of_getElem? (i := 1) rfl, ty67, .inl ⟨rfl, bQ, rfl⟩⟩, trivial⟩ (zs' := [zu]) (hs' := []) (List.singleton_sublist.2 (by simp)) zQ (bent_of (S := S) (F := F) (B := B) ⟨_, _, _, zu, rfl, hzs9.mono (hzu _ (by simp)), hzf9.mono (hzu _ (by simp)), hzb9.mono (hzu _ (by simp)), rfl, rfl⟩ (Gu.bS_o (by omega) (by omega)) (Gu.bF_1' hc3 hc4) (Gu.bB_o (by omega) (by omega)))
  ·refine wp_seq_k ?_; intro K14 hK14
   refine reg hF hS (sq rfl (q_eqi rfl rfl) <|
     sq rfl (q_assign rfl) <|
     sq_end) ?_
   clear hF hS; intro a w hF hS
   refine hK14 _ _ ?_
   clear hK14
   refine wp_ifd hF rfl (fun hc5 => ?_) (fun hc5 => ?_)
   ·refine wp_seq_k ?_; intro K15 hK15
    refine reg hF hS (sq rfl (q_fieldAddr ty67 rfl rfl (s' := 0) kQ) <|
      sq rfl (q_ld_blk1 ty22 3 rfl rfl rfl rfl) <|
      sq rfl (q_len_row ty22 2 rfl rfl) <|
      sq rfl (q_gti rfl rfl) <|
      sq_end) ?_
    clear hF hS; intro a w hF hS
    refine hK15 _ _ ?_
    clear hK15
    refine wp_ifd hF rfl (fun hc6 => ?_) (fun hc6 => ?_)
    ·refine regl ?_
     refine wpl_sq hF hS (sq rfl (q_fieldAddr ty67 rfl rfl (s' := 0) kQ) <|
       sq rfl (q_ld_blk1 ty22 3 rfl rfl rfl rfl) <|
       sq rfl (q_slrow_lo ty22 ty3 2 rfl rfl rfl (by omega)) <|
       sq rfl (q_fieldAddr ty67 rfl rfl (s' := 0) kQ) <|
       sq_end) ?_
     clear hF hS; intro a w hF hS
     refine wpl_ef hF hS rfl (ef_store1 ty22 3 rfl rfl rfl (slrow_one (hS.own _ (List.mem_of_getElem? (i := 2) rfl)).1) (by simp)) ?_
     clear hF hS; rintro _ _ _ a w ⟨rfl, rfl, rfl⟩ hF hS
     replace hS : St _ [] [_, _, _, .blk _ _ ([_, _, _].set 0 _), _, _] _ := hS
     simp only [List.set_cons_zero, List.set_cons_succ] at hS
     replace hS : St _ [] [_, _, _, _, _, _] _ := hS
     refine wpList_nil ?_
     refine hK4 _ _ ?_
     clear hK4
     refine wp_seq_k ?_; intro K16 hK16
     refine regl ?_
     refine wpl_sq hF hS (sq rfl (q_ld_blkW ty67 3 rfl rfl bQ rfl) <|
       sq_end) ?_
     clear hF hS; intro a w hF hS
     refine wpl_ef hF hS rfl (ef_storeW ty67 4 rfl rfl rfl rfl bQ (oc_cons (slrow_one (hS.own _ (List.mem_of_getElem? (i := 2) rfl)).1) (oc_cons (row_one (hS.own _ (List.mem_of_getElem? (i := 1) rfl)).1) (oc_cons (row_one (hS.own _ (List.mem_of_getElem? (i := 0) rfl)).1) oc_nil))) bQ) ?_
     clear hF hS; rintro _ _ _ a w ⟨rfl, rfl, rfl⟩ hF hS
     replace hS : St _ [] [_, _, _, _, _, _] _ := hS
     refine wpList_nil ?_
     refine hK16 _ _ ?_
     clear hK16
     refine wp_ret ?_
     replace hS := hS.perm (.cons _ (.swap _ _ _))
     replace hS := hS.perm (.swap _ _ _)
     obtain ⟨zs9, hzs9, hS⟩ := St.freezeV (h0 := fun _ => rfl) (f := vi) (p := fun x => -9223372036854775808 ≤ x ∧ x ≤ 9223372036854775807) (xs := S) (hS.rowEq (m' := List.length (S)) (cs' := List.map vi (S)) (by simp) (by simp [List.map_set, vt])) rfl (by first | omega | (simp; omega)) (hsr)
     replace hS := hS.perm (.swap _ _ _)
     obtain ⟨zf9, hzf9, hS⟩ := St.freezeV (h0 := fun _ => rfl) (f := vi) (p := fun x => -9223372036854775808 ≤ x ∧ x ≤ 9223372036854775807) (xs := F) (hS.rowEq (m' := List.length (F)) (cs' := List.map vi (F)) (by simp) (by simp [List.map_set, vt])) rfl (by first | omega | (simp; omega)) (hfr)
     obtain ⟨zb9, hzb9, hS⟩ := St.freezeV (h0 := fun _ => rfl) (f := vt) (p := fun _ => True) (xs := B) (hS.rowEq (m' := List.length (B)) (cs' := List.map vt (B)) (by simp) (by simp [List.map_set, vt])) rfl (by first | omega | (simp; omega)) (fun _ _ => trivial)
     obtain ⟨zu, hzu, hS⟩ := hS.union
     exact fn_ret (rs := [.cell 6 67]) rfl hF hS (vs := [_]) ⟨⟨_, _, _, _, _, _, _, rfl, List.mem_of_getElem? (i := 1) rfl, ty67, .inl ⟨rfl, bQ, rfl⟩⟩, trivial⟩ (zs' := [zu]) (hs' := []) (List.singleton_sublist.2 (by simp)) zQ (bent_of (S := S.tail) (F := F) (B := B) ⟨_, _, _, zu, rfl, (by have := Sl.cut (lo := 1) (hi := S.length) (hzs9.mono (hzu _ (by simp))) (by omega); rw [List.take_length, List.drop_one] at this; exact this), hzf9.mono (hzu _ (by simp)), hzb9.mono (hzu _ (by simp)), rfl, rfl⟩ (Gu.bS_2 hc5) (Gu.bF_o (by omega) (by omega)) (Gu.bB_o (by omega) (by omega)))
    ·refine wp_skip ?_
     refine hK4 _ _ ?_
     clear hK4
     refine wp_seq_k ?_; intro K17 hK17
     refine regl ?_
     refine wpl_sq hF hS (sq rfl (q_ld_blkW ty67 3 rfl rfl bQ rfl) <|
       sq_end) ?_
     clear hF hS; intro a w hF hS
     refine wpl_ef hF hS rfl (ef_storeW ty67 4 rfl rfl rfl rfl bQ (oc_cons (row_one (hS.own _ (List.mem_of_getElem? (i := 2) rfl)).1) (oc_cons (row_one (hS.own _ (List.mem_of_getElem? (i := 1) rfl)).1) (oc_cons (row_one (hS.own _ (List.mem_of_getElem? (i := 0) rfl)).1) oc_nil))) bQ) ?_
     clear hF hS; rintro _ _ _ a w ⟨rfl, rfl, rfl⟩ hF hS
     replace hS : St _ [] [_, _, _, _, _, _] _ := hS
     refine wpList_nil ?_
     refine hK17 _ _ ?_
     clear hK17
     refine wp_ret ?_
     replace hS := hS.perm (.cons _ (.swap _ _ _))
     replace hS := hS.perm (.swap _ _ _)
     obtain ⟨zs9, hzs9, hS⟩ := St.freezeV (h0 := fun _ => rfl) (f := vi) (p := fun x => -9223372036854775808 ≤ x ∧ x ≤ 9223372036854775807) (xs := S) (hS.rowEq (m' := List.length (S)) (cs' := List.map vi (S)) (by simp) (by simp [List.map_set, vt])) rfl (by first | omega | (simp; omega)) (hsr)
     replace hS := hS.perm (.swap _ _ _)
     obtain ⟨zf9, hzf9, hS⟩ := St.freezeV (h0 := fun _ => rfl) (f := vi) (p := fun x => -9223372036854775808 ≤ x ∧ x ≤ 9223372036854775807) (xs := F) (hS.rowEq (m' := List.length (F)) (cs' := List.map vi (F)) (by simp) (by simp [List.map_set, vt])) rfl (by first | omega | (simp; omega)) (hfr)
     obtain ⟨zb9, hzb9, hS⟩ := St.freezeV (h0 := fun _ => rfl) (f := vt) (p := fun _ => True) (xs := B) (hS.rowEq (m' := List.length (B)) (cs' := List.map vt (B)) (by simp) (by simp [List.map_set, vt])) rfl (by first | omega | (simp; omega)) (fun _ _ => trivial)
     obtain ⟨zu, hzu, hS⟩ := hS.union
     exact fn_ret (rs := [.cell 6 67]) rfl hF hS (vs := [_]) ⟨⟨_, _, _, _, _, _, _, rfl, List.mem_of_getElem? (i := 1) rfl, ty67, .inl ⟨rfl, bQ, rfl⟩⟩, trivial⟩ (zs' := [zu]) (hs' := []) (List.singleton_sublist.2 (by simp)) zQ (bent_of (S := S) (F := F) (B := B) ⟨_, _, _, zu, rfl, hzs9.mono (hzu _ (by simp)), hzf9.mono (hzu _ (by simp)), hzb9.mono (hzu _ (by simp)), rfl, rfl⟩ (by rw [Gu.bS_2 hc5, List.eq_nil_of_length_eq_zero (show S.length = 0 by omega)]; rfl) (Gu.bF_o (by omega) (by omega)) (Gu.bB_o (by omega) (by omega)))
   ·refine wp_seq_k ?_; intro K18 hK18
    refine reg hF hS (sq rfl (q_eqi rfl rfl) <|
      sq rfl (q_assign rfl) <|
      sq_end) ?_
    clear hF hS; intro a w hF hS
    refine hK18 _ _ ?_
    clear hK18
    refine wp_ifd hF rfl (fun hc7 => ?_) (fun hc7 => ?_)
    ·revert hF hS; apply regJ (J := J2 (α0 := Value) (α1 := Value) 101 _ _ _ _ _) #[false, false, false, false, false, false, false, false] 8 mixed rfl rfl
     ·intro w hF hS
      refine goW_take 0 _ rfl kQ rfl hF (hS.keep sQ zQ) (q_fieldAddr ty67 rfl rfl (s' := 0) kQ) ?_
      clear hF; intro a hF
      refine goW_take 1 _ rfl kQ rfl hF (hS.keep sQ (zQ.k.n.n.n)) (q_ld_blk1 ty22 0 rfl rfl rfl rfl) ?_
      clear hF; intro a hF
      refine goW_take 2 _ rfl kQ rfl hF (hS.keep sQ zQ) (q_move rfl) ?_
      clear hF; intro a hF
      refine gQ 3 rfl rfl hF hS rfl (ef_qt (q_call fn25 rfl (fun w hS => arnd_ct _ _ (by omega) (by omega) w ) (fun _ _ _ h => h))) ?_
      clear hF hS; rintro _ _ _ a w ⟨rfl, rfl, rfl⟩ hF hS
      refine ⟨⟨iQ, .inr (hS.k1 (zQ.k.n.n.n)), .inr hS.k0, trivial⟩, ?_⟩
      refine gQ 4 rfl rfl hF hS rfl (ef_bsliceA ty22 ty3 rfl rfl oQ (by decide) rfl rfl) ?_
      clear hF hS; rintro v_15_4 _ _ a w ⟨rfl, rfl⟩ hF hS
      refine ⟨⟨iQ, .inr (hS.k1 (zQ.k.n.n.n.n)), .inr hS.k0, trivial⟩, ?_⟩
      refine gQ 5 rfl rfl hF hS rfl (ef_append ty22 ty3 3 rfl rfl rfl (src_row ty22 (k := 0) rfl oQ) bQ rfl (by decide)) ?_
      clear hF hS; rintro v_15_5 _ _ a w ⟨rfl, rfl⟩ hF hS
      refine ⟨⟨iQ, iQ, iQ, trivial⟩, ?_⟩
      refine goW_take 6 _ rfl kQ rfl hF (hS.keep sQ zQ) (q_fieldAddr ty67 rfl rfl (s' := 0) kQ) ?_
      clear hF; intro a hF
      refine gQ 7 rfl rfl hF hS rfl (ef_store1 ty22 4 rfl rfl rfl (row_one (hS.own _ (List.mem_of_getElem? (i := 3) rfl)).1) (by simp)) ?_
      clear hF hS; rintro _ _ _ a w ⟨rfl, rfl, rfl⟩ hF hS
      replace hS : St _ [] [_, _, _, _, .blk _ _ ([_, _, _].set 0 _), _, _] _ := hS
      simp only [List.set_cons_zero, List.set_cons_succ] at hS
      replace hS : St _ [] [_, _, _, _, _, _, _] _ := hS
      refine ⟨⟨iQ, iQ, iQ, iQ, trivial⟩, ?_⟩
      exact goW_done kQ (j2_mk v_15_4 v_15_5 (trivial) (hF.sub (L' := [(6, _), (7, _)]) ⟨rfl, rfl, trivial⟩) hS)
     rintro a w ⟨v_15_4, v_15_5, -, hF, hS⟩
     (try dsimp only at hF); (try dsimp only at hS)
     refine hK4 _ _ ?_
     clear hK4
     refine wp_seq_k ?_; intro K19 hK19
     refine regl ?_
     refine wpl_sq hF hS (sq rfl (q_ld_blkW ty67 4 rfl rfl bQ rfl) <|
       sq_end) ?_
     clear hF hS; intro a w hF hS
     refine wpl_ef hF hS rfl (ef_storeW ty67 5 rfl rfl rfl rfl bQ (oc_cons (row_one (hS.own _ (List.mem_of_getElem? (i := 3) rfl)).1) (oc_cons (row_one (hS.own _ (List.mem_of_getElem? (i := 2) rfl)).1) (oc_cons (row_one (hS.own _ (List.mem_of_getElem? (i := 1) rfl)).1) oc_nil))) bQ) ?_
     clear hF hS; rintro _ _ _ a w ⟨rfl, rfl, rfl⟩ hF hS
     replace hS : St _ [] [_, _, _, _, _, _, _] _ := hS
     refine wpList_nil ?_
     refine hK19 _ _ ?_
     clear hK19
     refine wp_ret ?_
     replace hS := hS.perm (.cons _ (.cons _ (.swap _ _ _)))
     replace hS := hS.perm (.cons _ (.swap _ _ _))
     replace hS := hS.perm (.swap _ _ _)
     obtain ⟨zs9, hzs9, hS⟩ := St.freezeV (h0 := fun _ => rfl) (f := vi) (p := fun x => -9223372036854775808 ≤ x ∧ x ≤ 9223372036854775807) (xs := S ++ [Gu.arnd b 32]) (hS.rowEq (m' := List.length (S ++ [Gu.arnd b 32])) (cs' := List.map vi (S ++ [Gu.arnd b 32])) (by simp) (by simp [List.map_set, vt])) rfl (by first | omega | (simp; omega)) (Gu.rg_app hsr (by omega))
     replace hS := hS.perm (.cons _ (.swap _ _ _))
     replace hS := hS.perm (.swap _ _ _)
     obtain ⟨zf9, hzf9, hS⟩ := St.freezeV (h0 := fun _ => rfl) (f := vi) (p := fun x => -9223372036854775808 ≤ x ∧ x ≤ 9223372036854775807) (xs := F) (hS.rowEq (m' := List.length (F)) (cs' := List.map vi (F)) (by simp) (by simp [List.map_set, vt])) rfl (by first | omega | (simp; omega)) (hfr)
     replace hS := hS.perm (.swap _ _ _)
     obtain ⟨zb9, hzb9, hS⟩ := St.freezeV (h0 := fun _ => rfl) (f := vt) (p := fun _ => True) (xs := B) (hS.rowEq (m' := List.length (B)) (cs' := List.map vt (B)) (by simp) (by simp [List.map_set, vt])) rfl (by first | omega | (simp; omega)) (fun _ _ => trivial)
     obtain ⟨zu, hzu, hS⟩ := hS.union
     exact fn_ret (rs := [.cell 6 67]) rfl hF hS (vs := [_]) ⟨⟨_, _, _, _, _, _, _, rfl, List.mem_of_getElem? (i := 2) rfl, ty67, .inl ⟨rfl, bQ, rfl⟩⟩, trivial⟩ (zs' := [zu]) (hs' := []) (List.singleton_sublist.2 (by simp)) zQ (bent_of (S := S ++ [Gu.arnd b 32]) (F := F) (B := B) ⟨_, _, _, zu, rfl, hzs9.mono (hzu _ (by simp)), hzf9.mono (hzu _ (by simp)), hzb9.mono (hzu _ (by simp)), rfl, rfl⟩ (Gu.bS_3 hc7) (Gu.bF_o (by omega) (by omega)) (Gu.bB_o (by omega) (by omega)))
    ·refine wp_seq_k ?_; intro K20 hK20
     refine reg hF hS (sq rfl (q_eqi rfl rfl) <|
       sq rfl (q_assign rfl) <|
       sq_end) ?_
     clear hF hS; intro a w hF hS
     refine hK20 _ _ ?_
     clear hK20
     refine wp_ifd hF rfl (fun hc8 => ?_) (fun hc8 => ?_)
     ·refine regl ?_
      refine wpl_sq hF hS (sq rfl (q_fieldAddr ty67 rfl rfl (s' := 0) kQ) <|
        sq rfl (q_ld_blk1 ty23 3 rfl rfl rfl rfl) <|
        sq rfl (q_move rfl) <|
        sq rfl (q_remi' rfl rfl (by decide)) <|
        sq rfl (q_eqi rfl rfl) <|
        sq_end) ?_
      clear hF hS; intro a w hF hS
      refine wpl_ef hF hS rfl (ef_bsliceA ty23 ty4 rfl rfl oQ (by decide) rfl rfl) ?_
      clear hF hS; rintro v3 _ _ a w ⟨rfl, rfl⟩ hF hS
      replace hS : St _ [] [_, _, _, _, _, _, _] _ := hS
      refine wpl_ef hF hS rfl (ef_append ty23 ty4 1 rfl rfl rfl (src_row ty23 (k := 0) rfl oQ) bQ rfl (by decide)) ?_
      clear hF hS; rintro v5 _ _ a w ⟨rfl, rfl⟩ hF hS
      replace hS : St _ [] [_, _, _, _, _, _, _] _ := hS
      refine wpl_sq hF hS (sq rfl (q_fieldAddr ty67 rfl rfl (s' := 0) kQ) <|
        sq_end) ?_
      clear hF hS; intro a w hF hS
      refine wpl_ef hF hS rfl (ef_store1 ty23 4 rfl rfl rfl (row_one (hS.own _ (List.mem_of_getElem? (i := 1) rfl)).1) (by simp)) ?_
      clear hF hS; rintro _ _ _ a w ⟨rfl, rfl, rfl⟩ hF hS
      replace hS : St _ [] [_, _, _, _, .blk _ _ ([_, _, _].set 2 _), _, _] _ := hS
      simp only [List.set_cons_zero, List.set_cons_succ] at hS
      replace hS : St _ [] [_, _, _, _, _, _, _] _ := hS
      refine wpList_nil ?_
      refine hK4 _ _ ?_
      clear hK4
      refine wp_seq_k ?_; intro K21 hK21
      refine regl ?_
      refine wpl_sq hF hS (sq rfl (q_ld_blkW ty67 4 rfl rfl bQ rfl) <|
        sq_end) ?_
      clear hF hS; intro a w hF hS
      refine wpl_ef hF hS rfl (ef_storeW ty67 5 rfl rfl rfl rfl bQ (oc_cons (row_one (hS.own _ (List.mem_of_getElem? (i := 3) rfl)).1) (oc_cons (row_one (hS.own _ (List.mem_of_getElem? (i := 2) rfl)).1) (oc_cons (row_one (hS.own _ (List.mem_of_getElem? (i := 1) rfl)).1) oc_nil))) bQ) ?_
      clear hF hS; rintro _ _ _ a w ⟨rfl, rfl, rfl⟩ hF hS
      replace hS : St _ [] [_, _, _, _, _, _, _] _ := hS
      refine wpList_nil ?_
      refine hK21 _ _ ?_
      clear hK21
      refine wp_ret ?_
      replace hS := hS.perm (.cons _ (.cons _ (.swap _ _ _)))
      replace hS := hS.perm (.cons _ (.swap _ _ _))
      replace hS := hS.perm (.swap _ _ _)
      obtain ⟨zs9, hzs9, hS⟩ := St.freezeV (h0 := fun _ => rfl) (f := vi) (p := fun x => -9223372036854775808 ≤ x ∧ x ≤ 9223372036854775807) (xs := S) (hS.rowEq (m' := List.length (S)) (cs' := List.map vi (S)) (by simp) (by simp [List.map_set, vt])) rfl (by first | omega | (simp; omega)) (hsr)
      replace hS := hS.perm (.cons _ (.swap _ _ _))
      replace hS := hS.perm (.swap _ _ _)
      obtain ⟨zf9, hzf9, hS⟩ := St.freezeV (h0 := fun _ => rfl) (f := vi) (p := fun x => -9223372036854775808 ≤ x ∧ x ≤ 9223372036854775807) (xs := F) (hS.rowEq (m' := List.length (F)) (cs' := List.map vi (F)) (by simp) (by simp [List.map_set, vt])) rfl (by first | omega | (simp; omega)) (hfr)
      replace hS := hS.perm (.swap _ _ _)
      obtain ⟨zb9, hzb9, hS⟩ := St.freezeV (h0 := fun _ => rfl) (f := vt) (p := fun _ => True) (xs := B ++ [decide (b.tmod 2 = 0)]) (hS.rowEq (m' := List.length (B ++ [decide (b.tmod 2 = 0)])) (cs' := List.map vt (B ++ [decide (b.tmod 2 = 0)])) (by simp) (by simp [List.map_set, vt])) rfl (by first | omega | (simp; omega)) (fun _ _ => trivial)
      obtain ⟨zu, hzu, hS⟩ := hS.union
      exact fn_ret (rs := [.cell 6 67]) rfl hF hS (vs := [_]) ⟨⟨_, _, _, _, _, _, _, rfl, List.mem_of_getElem? (i := 2) rfl, ty67, .inl ⟨rfl, bQ, rfl⟩⟩, trivial⟩ (zs' := [zu]) (hs' := []) (List.singleton_sublist.2 (by simp)) zQ (bent_of (S := S) (F := F) (B := B ++ [decide (b.tmod 2 = 0)]) ⟨_, _, _, zu, rfl, hzs9.mono (hzu _ (by simp)), hzf9.mono (hzu _ (by simp)), hzb9.mono (hzu _ (by simp)), rfl, rfl⟩ (Gu.bS_o (by omega) (by omega)) (Gu.bF_o (by omega) (by omega)) (Gu.bB_4 hc8))
     ·refine regl ?_
      refine wpl_sq hF hS (sq rfl (q_fieldAddr ty67 rfl rfl (s' := 0) kQ) <|
        sq rfl (q_ld_blk1 ty22 3 rfl rfl rfl rfl) <|
        sq rfl (q_move rfl) <|
        sq_end) ?_
      clear hF hS; intro a w hF hS
      refine wpl_ef hF hS rfl (ef_bsliceA ty22 ty3 rfl rfl oQ (by decide) rfl rfl) ?_
      clear hF hS; rintro v6 _ _ a w ⟨rfl, rfl⟩ hF hS
      replace hS : St _ [] [_, _, _, _, _, _, _] _ := hS
      refine wpl_ef hF hS rfl (ef_append ty22 ty3 2 rfl rfl rfl (src_row ty22 (k := 0) rfl oQ) bQ rfl (by decide)) ?_
      clear hF hS; rintro v8 _ _ a w ⟨rfl, rfl⟩ hF hS
      replace hS : St _ [] [_, _, _, _, _, _, _] _ := hS
      refine wpl_sq hF hS (sq rfl (q_fieldAddr ty67 rfl rfl (s' := 0) kQ) <|
        sq_end) ?_
      clear hF hS; intro a w hF hS
      refine wpl_ef hF hS rfl (ef_store1 ty22 4 rfl rfl rfl (row_one (hS.own _ (List.mem_of_getElem? (i := 2) rfl)).1) (by simp)) ?_
      clear hF hS; rintro _ _ _ a w ⟨rfl, rfl, rfl⟩ hF hS
      replace hS : St _ [] [_, _, _, _, .blk _ _ ([_, _, _].set 1 _), _, _] _ := hS
      simp only [List.set_cons_zero, List.set_cons_succ] at hS
      replace hS : St _ [] [_, _, _, _, _, _, _] _ := hS
      refine wpList_nil ?_
      refine hK4 _ _ ?_
      clear hK4
      refine wp_seq_k ?_; intro K22 hK22
      refine regl ?_
      refine wpl_sq hF hS (sq rfl (q_ld_blkW ty67 4 rfl rfl bQ rfl) <|
        sq_end) ?_
      clear hF hS; intro a w hF hS
      refine wpl_ef hF hS rfl (ef_storeW ty67 5 rfl rfl rfl rfl bQ (oc_cons (row_one (hS.own _ (List.mem_of_getElem? (i := 3) rfl)).1) (oc_cons (row_one (hS.own _ (List.mem_of_getElem? (i := 2) rfl)).1) (oc_cons (row_one (hS.own _ (List.mem_of_getElem? (i := 1) rfl)).1) oc_nil))) bQ) ?_
      clear hF hS; rintro _ _ _ a w ⟨rfl, rfl, rfl⟩ hF hS
      replace hS : St _ [] [_, _, _, _, _, _, _] _ := hS
      refine wpList_nil ?_
      refine hK22 _ _ ?_
      clear hK22
      refine wp_ret ?_
      replace hS := hS.perm (.cons _ (.cons _ (.swap _ _ _)))
      replace hS := hS.perm (.cons _ (.swap _ _ _))
      replace hS := hS.perm (.swap _ _ _)
      obtain ⟨zs9, hzs9, hS⟩ := St.freezeV (h0 := fun _ => rfl) (f := vi) (p := fun x => -9223372036854775808 ≤ x ∧ x ≤ 9223372036854775807) (xs := S) (hS.rowEq (m' := List.length (S)) (cs' := List.map vi (S)) (by simp) (by simp [List.map_set, vt])) rfl (by first | omega | (simp; omega)) (hsr)
      replace hS := hS.perm (.cons _ (.swap _ _ _))
      replace hS := hS.perm (.swap _ _ _)
      obtain ⟨zf9, hzf9, hS⟩ := St.freezeV (h0 := fun _ => rfl) (f := vi) (p := fun x => -9223372036854775808 ≤ x ∧ x ≤ 9223372036854775807) (xs := F ++ [b]) (hS.rowEq (m' := List.length (F ++ [b])) (cs' := List.map vi (F ++ [b])) (by simp) (by simp [List.map_set, vt])) rfl (by first | omega | (simp; omega)) (Gu.rg_app hfr hb9)
      replace hS := hS.perm (.swap _ _ _)
      obtain ⟨zb9, hzb9, hS⟩ := St.freezeV (h0 := fun _ => rfl) (f := vt) (p := fun _ => True) (xs := B) (hS.rowEq (m' := List.length (B)) (cs' := List.map vt (B)) (by simp) (by simp [List.map_set, vt])) rfl (by first | omega | (simp; omega)) (fun _ _ => trivial)
      obtain ⟨zu, hzu, hS⟩ := hS.union
      exact fn_ret (rs := [.cell 6 67]) rfl hF hS (vs := [_]) ⟨⟨_, _, _, _, _, _, _, rfl, List.mem_of_getElem? (i := 2) rfl, ty67, .inl ⟨rfl, bQ, rfl⟩⟩, trivial⟩ (zs' := [zu]) (hs' := []) (List.singleton_sublist.2 (by simp)) zQ (bent_of (S := S) (F := F ++ [b]) (B := B) ⟨_, _, _, zu, rfl, hzs9.mono (hzu _ (by simp)), hzf9.mono (hzu _ (by simp)), hzb9.mono (hzu _ (by simp)), rfl, rfl⟩ (Gu.bS_o (by omega) (by omega)) (Gu.bF_5 (by omega)) (Gu.bB_o (by omega) (by omega)))
end Go.Proofs.Ytcbjemjohacbpaa
