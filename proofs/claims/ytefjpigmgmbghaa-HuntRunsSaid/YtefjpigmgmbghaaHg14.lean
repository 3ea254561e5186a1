/- A text of a proof over this seat: walks over the program's functions and the plain laws that they need. -/
import Derived.Test.YtefjpigmgmbghaaHq13
import Derived.Test.YtefjpigmgmbghaaGuA
import Derived.Test.YtefjpigmgmbghaaFwB
set_option linter.all false
namespace Go.Proofs.Ytefjpigmgmbghaa
open Go.Fw


theorem tdiv8 {b : Int} (h : -9223372036854775808 ≤ b ∧ b ≤ 9223372036854775807) : -9223372036854775808 ≤ b.tdiv 8 ∧ b.tdiv 8 ≤ 9223372036854775807 := by
 rcases Int.lt_or_le b 0 with h1 | h1
 ·have e : b = -(-b) := by omega
  rw [e, Int.neg_tdiv, Int.tdiv_eq_ediv_of_nonneg (by omega)]
  omega
 ·rw [Int.tdiv_eq_ediv_of_nonneg h1]
  omega

def Rg (x : Int) : Prop := -9223372036854775808 ≤ x ∧ x ≤ 9223372036854775807
theorem rng_getD {xs : List Int} (h : ∀ x ∈ xs, Rg x) (i : Nat) : Rg (xs.getD i 0) := by
 rw [List.getD_eq_getElem?_getD]
 cases hx : xs[i]? with
 | none => exact ⟨by decide, by decide⟩
 | some x => exact h x (List.mem_of_getElem? hx)
theorem rng5 {b : Int} (hb : Rg b) (i : Nat) : Rg ([b, -1, 0, 4611686018427387904, 5].getD i 0) := rng_getD (by
 intro x hx
 simp only [List.mem_cons, List.not_mem_nil, or_false] at hx
 rcases hx with rfl | rfl | rfl | rfl | rfl
 ·exact hb
 all_goals exact ⟨by decide, by decide⟩) i
theorem cut_len {α : Type} {k : Nat} {xs : List α} (hk : k < xs.length) : xs.length - 1 = (xs.take k ++ xs.drop (k + 1)).length := by
 simp
 omega
section
variable {xs : List Int} {N : Nat} (hr : ∀ x ∈ xs, Rg x) (hN : N ≤ 1000 ∧ xs.length ≤ N)
include hr hN
theorem oi_same : ∃ ys : List Int, xs.map vi = ys.map vi ∧ xs.length = ys.length ∧ ys.length ≤ N + 1 ∧ N ≤ 1000 ∧ ∀ x ∈ ys, Rg x := ⟨xs, rfl, rfl, by omega, by omega, hr⟩
theorem oi_set {k : Nat} {u : Int} (hu : Rg u) : ∃ ys : List Int, (xs.map vi).set k (vi u) = ys.map vi ∧ xs.length = ys.length ∧ ys.length ≤ N + 1 ∧ N ≤ 1000 ∧ ∀ x ∈ ys, Rg x :=
 ⟨xs.set k u, List.map_set.symm, by simp, by simp; omega, by omega, fun x hx => (List.mem_or_eq_of_mem_set hx).elim (hr x) (fun e => e ▸ hu)⟩
theorem oi_set2 {k l : Nat} {u v : Int} (hu : Rg u) (hv : Rg v) : ∃ ys : List Int, ((xs.map vi).set k (vi u)).set l (vi v) = ys.map vi ∧ xs.length = ys.length ∧ ys.length ≤ N + 1 ∧ N ≤ 1000 ∧ ∀ x ∈ ys, Rg x :=
 ⟨(xs.set k u).set l v, by simp [List.map_set], by simp, by simp; omega, by omega, fun x hx => (List.mem_or_eq_of_mem_set hx).elim (fun h => (List.mem_or_eq_of_mem_set h).elim (hr x) (fun e => e ▸ hu)) (fun e => e ▸ hv)⟩
theorem oi_app {u : Int} (hu : Rg u) : ∃ ys : List Int, xs.map vi ++ [vi u] = ys.map vi ∧ xs.length + 1 = ys.length ∧ ys.length ≤ N + 1 ∧ N ≤ 1000 ∧ ∀ x ∈ ys, Rg x :=
 ⟨xs ++ [u], by simp, by simp, by simp; omega, by omega, fun x hx => (List.mem_append.1 hx).elim (hr x) (fun e => by simp at e; subst e; exact hu)⟩
theorem oi_cut {k : Nat} (hk : k < xs.length) : ∃ ys : List Int, (xs.map vi).take k ++ (xs.map vi).drop (k + 1) = ys.map vi ∧ xs.length - 1 = ys.length ∧ ys.length ≤ N + 1 ∧ N ≤ 1000 ∧ ∀ x ∈ ys, Rg x :=
 ⟨xs.take k ++ xs.drop (k + 1), by simp, cut_len hk, by rw [← cut_len hk]; omega, by omega, fun x hx => (List.mem_append.1 hx).elim (fun h => hr x (List.mem_of_mem_take h)) (fun h => hr x (List.mem_of_mem_drop h))⟩
end
section
variable {xs : List Bool} {N : Nat} (hN : N ≤ 1000 ∧ xs.length ≤ N)
include hN
theorem ob_same : ∃ ys : List Bool, xs.map vt = ys.map vt ∧ xs.length = ys.length ∧ ys.length ≤ N + 1 ∧ N ≤ 1000 := ⟨xs, rfl, rfl, by omega, by omega⟩
theorem ob_set {k : Nat} {u : Bool} : ∃ ys : List Bool, (xs.map vt).set k (.bool u) = ys.map vt ∧ xs.length = ys.length ∧ ys.length ≤ N + 1 ∧ N ≤ 1000 :=
 ⟨xs.set k u, List.map_set.symm, by simp, by simp; omega, by omega⟩
theorem ob_app {u : Bool} : ∃ ys : List Bool, xs.map vt ++ [.bool u] = ys.map vt ∧ xs.length + 1 = ys.length ∧ ys.length ≤ N + 1 ∧ N ≤ 1000 :=
 ⟨xs ++ [u], by simp [vt], by simp, by simp; omega, by omega⟩
theorem ob_cut {k : Nat} (hk : k < xs.length) : ∃ ys : List Bool, (xs.map vt).take k ++ (xs.map vt).drop (k + 1) = ys.map vt ∧ xs.length - 1 = ys.length ∧ ys.length ≤ N + 1 ∧ N ≤ 1000 :=
 ⟨xs.take k ++ xs.drop (k + 1), by simp, cut_len hk, by rw [← cut_len hk]; omega, by omega⟩
end
section
variable {xs : List (List Value)} {N : Nat} (hr : ∀ x ∈ xs, x.length = 2 ∧ ∀ u ∈ x, u.oneCell' = true) (hN : N ≤ 1000 ∧ xs.length ≤ N)
include hr hN
theorem on_same : ∃ ys : List (List Value), xs.flatten = ys.flatten ∧ xs.length = ys.length ∧ ys.length ≤ N + 1 ∧ N ≤ 1000 ∧ ∀ x ∈ ys, x.length = 2 ∧ ∀ u ∈ x, u.oneCell' = true := ⟨xs, rfl, rfl, by omega, by omega, hr⟩
theorem on_app (h0 : 0 < xs.length) : ∃ ys : List (List Value), xs.flatten ++ xs.getD 0 [] = ys.flatten ∧ xs.length + 1 = ys.length ∧ ys.length ≤ N + 1 ∧ N ≤ 1000 ∧ ∀ x ∈ ys, x.length = 2 ∧ ∀ u ∈ x, u.oneCell' = true :=
 ⟨xs ++ [xs.getD 0 []], by simp, by simp, by simp; omega, by omega, fun x hx => (List.mem_append.1 hx).elim (hr x) (fun e => by
  simp only [List.mem_cons, List.not_mem_nil, or_false] at e
  subst e
  rw [List.getD_eq_getElem?_getD, List.getElem?_eq_getElem h0]
  exact hr _ (List.getElem_mem h0))⟩
end
theorem odd_ints {w0 : World} {zs : List PH} {hs : List Res} {w : World} {e : TypeId} {v : Value} {m N : Nat} {cs : List Value} (h : St w0 zs (.row v e 1 m cs :: hs) w) (hc : ∃ xs : List Int, cs = xs.map vi ∧ m = xs.length ∧ xs.length ≤ N + 1 ∧ N ≤ 1000 ∧ ∀ x ∈ xs, -9223372036854775808 ≤ x ∧ x ≤ 9223372036854775807) : ∃ xs9 z, Sl encI z v xs9 ∧ xs9.length ≤ N + 1 ∧ St w0 (z :: zs) hs w := by
 obtain ⟨xs, rfl, rfl, hl, hN, hr⟩ := hc
 obtain ⟨z, hz, hS⟩ := St.freezeV (f := vi) (p := fun x => -9223372036854775808 ≤ x ∧ x ≤ 9223372036854775807) h rfl (by omega) hr
 exact ⟨xs, z, hz, hl, hS⟩
theorem odd_bools {w0 : World} {zs : List PH} {hs : List Res} {w : World} {e : TypeId} {v : Value} {m N : Nat} {cs : List Value} (h : St w0 zs (.row v e 1 m cs :: hs) w) (hc : ∃ xs : List Bool, cs = xs.map vt ∧ m = xs.length ∧ xs.length ≤ N + 1 ∧ N ≤ 1000) : ∃ xs9 z, Sl encT z v xs9 ∧ xs9.length ≤ N + 1 ∧ St w0 (z :: zs) hs w := by
 obtain ⟨xs, rfl, rfl, hl, hN⟩ := hc
 obtain ⟨z, hz, hS⟩ := St.freezeV (f := vt) (p := fun _ => True) h rfl (by omega) (fun _ _ => trivial)
 exact ⟨xs, z, hz, hl, hS⟩
theorem odd_names {w0 : World} {zs : List PH} {hs : List Res} {w : World} {e : TypeId} {v : Value} {m N : Nat} {cs : List Value} (h : St w0 zs (.row v e 2 m cs :: hs) w) (hc : ∃ xs : List (List Value), cs = xs.flatten ∧ m = xs.length ∧ xs.length ≤ N + 1 ∧ N ≤ 1000 ∧ ∀ x ∈ xs, x.length = 2 ∧ ∀ u ∈ x, u.oneCell' = true) : ∃ xs9 z, Sl (encC 2) z v xs9 ∧ xs9.length ≤ N + 1 ∧ St w0 (z :: zs) hs w := by
 obtain ⟨xs, rfl, rfl, hl, hN, hr⟩ := hc
 obtain ⟨z, hz, hS⟩ := h.freezeC rfl (by omega) hr
 exact ⟨xs, z, hz, hl, hS⟩

set_option maxRecDepth 4000 in
set_option maxHeartbeats 2000000 in
theorem odd_ct (xN xS xB : Value) (xn : List (List Value)) (xs : List Int) (xb : List Bool) (h b : Int) (hb9 : -9223372036854775808 ≤ b ∧ b ≤ 9223372036854775807) (hh9 : -9223372036854775808 ≤ h ∧ h ≤ 9223372036854775807) (N : Nat) (hN : N ≤ 1000 ∧ xn.length ≤ N ∧ xs.length ≤ N ∧ xb.length ≤ N) (w : World) (hxn : Sl (encC 2) (ph w) xN xn) (hxs : Sl encI (ph w) xS xs) (hxb : Sl encT (ph w) xB xb) : Ct Try.prog 14 [.agg [xN, xS, xB].toArray, vi h, vi b] w (LatN (N + 1) false) := by
 refine fn_enter Try.func14 rfl Try.ntmps14 (Nat.le_of_ble_eq_true rfl) fun a hF hS => ?_
 have hnl := hxn.1
 have hsl := hxs.1
 have hbl := hxb.1
 have hkr := Gu.arnd_range (n := b) (m := max (xs.length : Int) 1) (by omega)
 have hq8 := tdiv8 hb9
 have hxc := sl_C hxn
 have hxr : ∀ x ∈ xs, Rg x := sl_rng hxs
 have hx0 : 0 < xn.length → (xn.getD 0 []).length = 2 ∧ ∀ v ∈ xn.getD 0 [], v.oneCell' = true := fun h => hxc _ (by rw [List.getD_eq_getElem?_getD, List.getElem?_eq_getElem h]; exact List.getElem_mem h)
 have hk5 := Gu.arnd_range (n := b.tdiv 8) (m := 5) (by omega)
 refine wp_seq_k ?_; intro K1 hK1
 refine regl ?_
 refine wpl_ef hF hS rfl (ef_boxA rfl) ?_
 clear hF hS; rintro _ _ _ a w ⟨b1, rfl, rfl, rfl⟩ hF hS
 refine wpl_ef hF hS rfl (ef_allocA ty26) ?_
 clear hF hS; rintro _ _ _ a w ⟨b2, rfl, rfl, rfl⟩ hF hS
 refine wpList_nil ?_
 refine hK1 _ _ ?_
 clear hK1
 refine wp_seq_k ?_; intro K2 hK2
 revert hS; revert hF; apply regJ (J := J7 (α0 := Value) (α1 := Value) (α2 := Value) (α3 := Value) (α4 := Value) (α5 := Value) (α6 := Nat) 166 _ _ _ _ _) #[false, false, false, false, false, false, false, false, false, false, false, false, false, false, false] 15 mixed rfl rfl
 ·intro w hF hS
  refine goW_take 1 _ rfl kQ rfl hF (hS.keep sQ zQ) (q_fieldAddr ty26 rfl rfl (s' := 0) kQ) ?_
  clear hF; intro a hF
  refine goW_take 2 _ rfl kQ rfl hF (hS.keep sQ (sQ.n)) (q_ld_blk1 ty23 0 rfl rfl rfl rfl) ?_
  clear hF; intro a hF
  refine goW_take 5 _ rfl kQ rfl hF (hS.keep sQ zQ) (q_fieldAddr ty26 rfl rfl (s' := 0) kQ) ?_
  clear hF; intro a hF
  refine goW_take 6 _ rfl kQ rfl hF (hS.keep sQ (sQ.n)) (q_ld_blk1 ty22 0 rfl rfl rfl rfl) ?_
  clear hF; intro a hF
  refine goW_take 9 _ rfl kQ rfl hF (hS.keep sQ zQ) (q_fieldAddr ty26 rfl rfl (s' := 0) kQ) ?_
  clear hF; intro a hF
  refine goW_take 10 _ rfl kQ rfl hF (hS.keep sQ (sQ.n)) (q_ld_blk1 ty24 0 rfl rfl rfl rfl) ?_
  clear hF; intro a hF
  refine goW_fork [0, 4, 8, 13] kQ rfl ⟨?_, ?_, ?_, ?_, trivial⟩
  ·refine stepW_ef _ rfl rfl hF hS rfl (ef_bslice0 ty23 ty83) ?_
   clear hF hS; rintro v_1_0 _ _ a w ⟨rfl, rfl⟩ hF hS
   refine ⟨⟨.inr (hS.k1 (sQ.n.n)), .inr hS.k0, .inr (hS.k1 (sQ.n.n)), .inr hS.k0, .inr (hS.k1 (sQ.n.n)), .inr hS.k0, trivial⟩, ?_⟩
   refine goW_fork [3, 4, 8, 13] kQ rfl ⟨?_, ?_, ?_, ?_, trivial⟩
   ·refine stepW_ef _ rfl rfl hF hS rfl (ef_append ty23 ty83 0 rfl rfl rfl (src_slC ty23 hxn zin0 (by decide)) bQ rfl (by decide)) ?_
    clear hF hS; rintro v_1_3 _ _ a w ⟨rfl, rfl⟩ hF hS
    refine ⟨⟨.inr (hS.k1 (sQ.n.n)), .inr hS.k0, .inr (hS.k1 (sQ.n.n)), .inr hS.k0, iQ, iQ, trivial⟩, ?_⟩
    refine goW_fork [4, 8, 13] kQ rfl ⟨?_, ?_, ?_, trivial⟩
    ·refine stepW_ef _ rfl rfl hF hS rfl (ef_bslice0 ty22 ty3) ?_
     clear hF hS; rintro v_1_4 _ _ a w ⟨rfl, rfl⟩ hF hS
     refine ⟨⟨.inr (hS.k1 (sQ.n.n.n)), .inr hS.k0, .inr (hS.k1 (sQ.n.n.n)), .inr hS.k0, iQ, iQ, trivial⟩, ?_⟩
     refine goW_fork [7, 8, 13] kQ rfl ⟨?_, ?_, ?_, trivial⟩
     ·refine stepW_ef _ rfl rfl hF hS rfl (ef_append ty22 ty3 0 rfl rfl rfl (src_slV ty22 hxs zin0) bQ rfl (by decide)) ?_
      clear hF hS; rintro v_1_7 _ _ a w ⟨rfl, rfl⟩ hF hS
      refine ⟨⟨.inr (hS.k1 (sQ.n.n.n)), .inr hS.k0, iQ, iQ, iQ, iQ, trivial⟩, ?_⟩
      refine goW_fork [8, 13] kQ rfl ⟨?_, ?_, trivial⟩
      ·refine stepW_ef _ rfl rfl hF hS rfl (ef_bslice0 ty24 ty4) ?_
       clear hF hS; rintro v_1_8 _ _ a w ⟨rfl, rfl⟩ hF hS
       refine ⟨⟨.inr (hS.k1 (sQ.n.n.n.n)), .inr hS.k0, iQ, iQ, iQ, iQ, trivial⟩, ?_⟩
       refine goW_fork [11, 13] kQ rfl ⟨?_, ?_, trivial⟩
       ·refine stepW_ef _ rfl rfl hF hS rfl (ef_append ty24 ty4 0 rfl rfl rfl (src_slV ty24 hxb zin0) bQ rfl (by decide)) ?_
        clear hF hS; rintro v_1_11 _ _ a w ⟨rfl, rfl⟩ hF hS
        refine ⟨⟨iQ, iQ, iQ, iQ, iQ, iQ, trivial⟩, ?_⟩
        refine goW_take 12 _ rfl kQ rfl hF (hS.keep sQ (zQ.k.k.k)) (q_buildS1 ty26 3 kQ rfl rfl (oc_cons (row_one (hS.own _ (List.mem_of_getElem? (i := 2) rfl)).1) (oc_cons (row_one (hS.own _ (List.mem_of_getElem? (i := 1) rfl)).1) (oc_cons (row_one (hS.own _ (List.mem_of_getElem? (i := 0) rfl)).1) oc_nil))) rfl rfl) ?_
        clear hF; intro a hF
        refine gQ 13 rfl rfl hF hS rfl (ef_allocA ty26) ?_
        clear hF hS; rintro _ _ _ a w ⟨b_1_13, rfl, rfl, rfl⟩ hF hS
        refine ⟨⟨.inr (hS.k1 (zQ.k.k.k.n)), iQ, iQ, iQ, iQ, iQ, iQ, trivial⟩, ?_⟩
        refine gQ 14 rfl rfl hF hS rfl (ef_storeW ty26 0 rfl rfl rfl rfl bQ (oc_cons (row_one (hS.own _ (List.mem_of_getElem? (i := 3) rfl)).1) (oc_cons (row_one (hS.own _ (List.mem_of_getElem? (i := 2) rfl)).1) (oc_cons (row_one (hS.own _ (List.mem_of_getElem? (i := 1) rfl)).1) oc_nil))) bQ) ?_
        clear hF hS; rintro _ _ _ a w ⟨rfl, rfl, rfl⟩ hF hS
        refine ⟨⟨iQ, iQ, iQ, iQ, iQ, iQ, iQ, trivial⟩, ?_⟩
        exact goW_done kQ (j7_mk v_1_0 v_1_3 v_1_4 v_1_7 v_1_8 v_1_11 b_1_13 (trivial) (hF.sub (L' := [(1, _), (2, _), (6, _), (7, _)]) ⟨rfl, rfl, rfl, rfl, trivial⟩) hS)
       ·refine stepW_ef _ rfl rfl hF hS rfl (ef_allocA ty26) ?_
        clear hF hS; rintro _ _ _ a w ⟨b_1_13, rfl, rfl, rfl⟩ hF hS
        refine ⟨⟨.inr (hS.k1 (sQ.n.n.n.n.n)), .inr hS.k0, iQ, iQ, iQ, iQ, trivial⟩, ?_⟩
        refine gQ 11 rfl rfl hF hS rfl (ef_append ty24 ty4 1 rfl rfl rfl (src_slV ty24 hxb zin0) bQ rfl (by decide)) ?_
        clear hF hS; rintro v_1_11 _ _ a w ⟨rfl, rfl⟩ hF hS
        refine ⟨⟨iQ, iQ, iQ, iQ, iQ, iQ, trivial⟩, ?_⟩
        refine goW_take 12 _ rfl kQ rfl hF (hS.keep sQ (zQ.k.k.k.n)) (q_buildS1 ty26 3 kQ rfl rfl (oc_cons (row_one (hS.own _ (List.mem_of_getElem? (i := 3) rfl)).1) (oc_cons (row_one (hS.own _ (List.mem_of_getElem? (i := 2) rfl)).1) (oc_cons (row_one (hS.own _ (List.mem_of_getElem? (i := 1) rfl)).1) oc_nil))) rfl rfl) ?_
        clear hF; intro a hF
        refine gQ 14 rfl rfl hF hS rfl (ef_storeW ty26 0 rfl rfl rfl rfl bQ (oc_cons (row_one (hS.own _ (List.mem_of_getElem? (i := 3) rfl)).1) (oc_cons (row_one (hS.own _ (List.mem_of_getElem? (i := 2) rfl)).1) (oc_cons (row_one (hS.own _ (List.mem_of_getElem? (i := 1) rfl)).1) oc_nil))) bQ) ?_
        clear hF hS; rintro _ _ _ a w ⟨rfl, rfl, rfl⟩ hF hS
        refine ⟨⟨iQ, iQ, iQ, iQ, iQ, iQ, iQ, trivial⟩, ?_⟩
        exact goW_done kQ (j7_mk v_1_0 v_1_3 v_1_4 v_1_7 v_1_8 v_1_11 b_1_13 (trivial) (hF.sub (L' := [(1, _), (2, _), (6, _), (7, _)]) ⟨rfl, rfl, rfl, rfl, trivial⟩) hS)
      ·refine stepW_ef _ rfl rfl hF hS rfl (ef_allocA ty26) ?_
       clear hF hS; rintro _ _ _ a w ⟨b_1_13, rfl, rfl, rfl⟩ hF hS
       refine ⟨⟨.inr (hS.k1 (sQ.n.n.n.n)), .inr hS.k0, iQ, iQ, iQ, iQ, trivial⟩, ?_⟩
       refine gQ 8 rfl rfl hF hS rfl (ef_bslice0 ty24 ty4) ?_
       clear hF hS; rintro v_1_8 _ _ a w ⟨rfl, rfl⟩ hF hS
       refine ⟨⟨.inr (hS.k1 (sQ.n.n.n.n.n)), .inr hS.k0, iQ, iQ, iQ, iQ, trivial⟩, ?_⟩
       refine gQ 11 rfl rfl hF hS rfl (ef_append ty24 ty4 0 rfl rfl rfl (src_slV ty24 hxb zin0) bQ rfl (by decide)) ?_
       clear hF hS; rintro v_1_11 _ _ a w ⟨rfl, rfl⟩ hF hS
       refine ⟨⟨iQ, iQ, iQ, iQ, iQ, iQ, trivial⟩, ?_⟩
       refine goW_take 12 _ rfl kQ rfl hF (hS.keep sQ (zQ.k.k.n.k)) (q_buildS1 ty26 3 kQ rfl rfl (oc_cons (row_one (hS.own _ (List.mem_of_getElem? (i := 3) rfl)).1) (oc_cons (row_one (hS.own _ (List.mem_of_getElem? (i := 2) rfl)).1) (oc_cons (row_one (hS.own _ (List.mem_of_getElem? (i := 0) rfl)).1) oc_nil))) rfl rfl) ?_
       clear hF; intro a hF
       refine gQ 14 rfl rfl hF hS rfl (ef_storeW ty26 1 rfl rfl rfl rfl bQ (oc_cons (row_one (hS.own _ (List.mem_of_getElem? (i := 3) rfl)).1) (oc_cons (row_one (hS.own _ (List.mem_of_getElem? (i := 2) rfl)).1) (oc_cons (row_one (hS.own _ (List.mem_of_getElem? (i := 0) rfl)).1) oc_nil))) bQ) ?_
       clear hF hS; rintro _ _ _ a w ⟨rfl, rfl, rfl⟩ hF hS
       refine ⟨⟨iQ, iQ, iQ, iQ, iQ, iQ, iQ, trivial⟩, ?_⟩
       exact goW_done kQ (j7_mk v_1_0 v_1_3 v_1_4 v_1_7 v_1_8 v_1_11 b_1_13 (trivial) (hF.sub (L' := [(1, _), (2, _), (6, _), (7, _)]) ⟨rfl, rfl, rfl, rfl, trivial⟩) (hS.perm (.swap _ _ _)))
     ·refine stepW_ef _ rfl rfl hF hS rfl (ef_bslice0 ty24 ty4) ?_
      clear hF hS; rintro v_1_8 _ _ a w ⟨rfl, rfl⟩ hF hS
      refine ⟨⟨.inr (hS.k1 (sQ.n.n.n.n)), .inr hS.k0, .inr (hS.k1 (sQ.n.n.n.n)), .inr hS.k0, iQ, iQ, trivial⟩, ?_⟩
      refine goW_fork [7, 13] kQ rfl ⟨?_, ?_, trivial⟩
      ·refine stepW_ef _ rfl rfl hF hS rfl (ef_append ty22 ty3 1 rfl rfl rfl (src_slV ty22 hxs zin0) bQ rfl (by decide)) ?_
       clear hF hS; rintro v_1_7 _ _ a w ⟨rfl, rfl⟩ hF hS
       refine ⟨⟨.inr (hS.k1 (sQ.n.n.n.n)), .inr hS.k0, iQ, iQ, iQ, iQ, trivial⟩, ?_⟩
       refine goW_fork [11, 13] kQ rfl ⟨?_, ?_, trivial⟩
       ·refine stepW_ef _ rfl rfl hF hS rfl (ef_append ty24 ty4 0 rfl rfl rfl (src_slV ty24 hxb zin0) bQ rfl (by decide)) ?_
        clear hF hS; rintro v_1_11 _ _ a w ⟨rfl, rfl⟩ hF hS
        refine ⟨⟨iQ, iQ, iQ, iQ, iQ, iQ, trivial⟩, ?_⟩
        refine goW_take 12 _ rfl kQ rfl hF (hS.keep sQ (zQ.k.k.k)) (q_buildS1 ty26 3 kQ rfl rfl (oc_cons (row_one (hS.own _ (List.mem_of_getElem? (i := 2) rfl)).1) (oc_cons (row_one (hS.own _ (List.mem_of_getElem? (i := 1) rfl)).1) (oc_cons (row_one (hS.own _ (List.mem_of_getElem? (i := 0) rfl)).1) oc_nil))) rfl rfl) ?_
        clear hF; intro a hF
        refine gQ 13 rfl rfl hF hS rfl (ef_allocA ty26) ?_
        clear hF hS; rintro _ _ _ a w ⟨b_1_13, rfl, rfl, rfl⟩ hF hS
        refine ⟨⟨.inr (hS.k1 (zQ.k.k.k.n)), iQ, iQ, iQ, iQ, iQ, iQ, trivial⟩, ?_⟩
        refine gQ 14 rfl rfl hF hS rfl (ef_storeW ty26 0 rfl rfl rfl rfl bQ (oc_cons (row_one (hS.own _ (List.mem_of_getElem? (i := 3) rfl)).1) (oc_cons (row_one (hS.own _ (List.mem_of_getElem? (i := 2) rfl)).1) (oc_cons (row_one (hS.own _ (List.mem_of_getElem? (i := 1) rfl)).1) oc_nil))) bQ) ?_
        clear hF hS; rintro _ _ _ a w ⟨rfl, rfl, rfl⟩ hF hS
        refine ⟨⟨iQ, iQ, iQ, iQ, iQ, iQ, iQ, trivial⟩, ?_⟩
        exact goW_done kQ (j7_mk v_1_0 v_1_3 v_1_4 v_1_7 v_1_8 v_1_11 b_1_13 (trivial) (hF.sub (L' := [(1, _), (2, _), (6, _), (7, _)]) ⟨rfl, rfl, rfl, rfl, trivial⟩) hS)
       ·refine stepW_ef _ rfl rfl hF hS rfl (ef_allocA ty26) ?_
        clear hF hS; rintro _ _ _ a w ⟨b_1_13, rfl, rfl, rfl⟩ hF hS
        refine ⟨⟨.inr (hS.k1 (sQ.n.n.n.n.n)), .inr hS.k0, iQ, iQ, iQ, iQ, trivial⟩, ?_⟩
        refine gQ 11 rfl rfl hF hS rfl (ef_append ty24 ty4 1 rfl rfl rfl (src_slV ty24 hxb zin0) bQ rfl (by decide)) ?_
        clear hF hS; rintro v_1_11 _ _ a w ⟨rfl, rfl⟩ hF hS
        refine ⟨⟨iQ, iQ, iQ, iQ, iQ, iQ, trivial⟩, ?_⟩
        refine goW_take 12 _ rfl kQ rfl hF (hS.keep sQ (zQ.k.k.k.n)) (q_buildS1 ty26 3 kQ rfl rfl (oc_cons (row_one (hS.own _ (List.mem_of_getElem? (i := 3) rfl)).1) (oc_cons (row_one (hS.own _ (List.mem_of_getElem? (i := 2) rfl)).1) (oc_cons (row_one (hS.own _ (List.mem_of_getElem? (i := 1) rfl)).1) oc_nil))) rfl rfl) ?_
        clear hF; intro a hF
        refine gQ 14 rfl rfl hF hS rfl (ef_storeW ty26 0 rfl rfl rfl rfl bQ (oc_cons (row_one (hS.own _ (List.mem_of_getElem? (i := 3) rfl)).1) (oc_cons (row_one (hS.own _ (List.mem_of_getElem? (i := 2) rfl)).1) (oc_cons (row_one (hS.own _ (List.mem_of_getElem? (i := 1) rfl)).1) oc_nil))) bQ) ?_
        clear hF hS; rintro _ _ _ a w ⟨rfl, rfl, rfl⟩ hF hS
        refine ⟨⟨iQ, iQ, iQ, iQ, iQ, iQ, iQ, trivial⟩, ?_⟩
        exact goW_done kQ (j7_mk v_1_0 v_1_3 v_1_4 v_1_7 v_1_8 v_1_11 b_1_13 (trivial) (hF.sub (L' := [(1, _), (2, _), (6, _), (7, _)]) ⟨rfl, rfl, rfl, rfl, trivial⟩) hS)
      ·refine stepW_ef _ rfl rfl hF hS rfl (ef_allocA ty26) ?_
       clear hF hS; rintro _ _ _ a w ⟨b_1_13, rfl, rfl, rfl⟩ hF hS
       refine ⟨⟨.inr (hS.k1 (sQ.n.n.n.n.n)), .inr hS.k0, .inr (hS.k1 (sQ.n.n.n.n.n)), .inr hS.k0, iQ, iQ, trivial⟩, ?_⟩
       refine gQ 7 rfl rfl hF hS rfl (ef_append ty22 ty3 2 rfl rfl rfl (src_slV ty22 hxs zin0) bQ rfl (by decide)) ?_
       clear hF hS; rintro v_1_7 _ _ a w ⟨rfl, rfl⟩ hF hS
       refine ⟨⟨.inr (hS.k1 (sQ.n.n.n.n.n)), .inr hS.k0, iQ, iQ, iQ, iQ, trivial⟩, ?_⟩
       refine gQ 11 rfl rfl hF hS rfl (ef_append ty24 ty4 1 rfl rfl rfl (src_slV ty24 hxb zin0) bQ rfl (by decide)) ?_
       clear hF hS; rintro v_1_11 _ _ a w ⟨rfl, rfl⟩ hF hS
       refine ⟨⟨iQ, iQ, iQ, iQ, iQ, iQ, trivial⟩, ?_⟩
       refine goW_take 12 _ rfl kQ rfl hF (hS.keep sQ (zQ.k.k.k.n)) (q_buildS1 ty26 3 kQ rfl rfl (oc_cons (row_one (hS.own _ (List.mem_of_getElem? (i := 3) rfl)).1) (oc_cons (row_one (hS.own _ (List.mem_of_getElem? (i := 2) rfl)).1) (oc_cons (row_one (hS.own _ (List.mem_of_getElem? (i := 1) rfl)).1) oc_nil))) rfl rfl) ?_
       clear hF; intro a hF
       refine gQ 14 rfl rfl hF hS rfl (ef_storeW ty26 0 rfl rfl rfl rfl bQ (oc_cons (row_one (hS.own _ (List.mem_of_getElem? (i := 3) rfl)).1) (oc_cons (row_one (hS.own _ (List.mem_of_getElem? (i := 2) rfl)).1) (oc_cons (row_one (hS.own _ (List.mem_of_getElem? (i := 1) rfl)).1) oc_nil))) bQ) ?_
       clear hF hS; rintro _ _ _ a w ⟨rfl, rfl, rfl⟩ hF hS
       refine ⟨⟨iQ, iQ, iQ, iQ, iQ, iQ, iQ, trivial⟩, ?_⟩
       exact goW_done kQ (j7_mk v_1_0 v_1_3 v_1_4 v_1_7 v_1_8 v_1_11 b_1_13 (trivial) (hF.sub (L' := [(1, _), (2, _), (6, _), (7, _)]) ⟨rfl, rfl, rfl, rfl, trivial⟩) hS)
     ·refine stepW_ef _ rfl rfl hF hS rfl (ef_allocA ty26) ?_
      clear hF hS; rintro _ _ _ a w ⟨b_1_13, rfl, rfl, rfl⟩ hF hS
      refine ⟨⟨.inr (hS.k1 (sQ.n.n.n.n)), .inr hS.k0, .inr (hS.k1 (sQ.n.n.n.n)), .inr hS.k0, iQ, iQ, trivial⟩, ?_⟩
      refine goW_fork [7, 8] kQ rfl ⟨?_, ?_, trivial⟩
      ·refine stepW_ef _ rfl rfl hF hS rfl (ef_append ty22 ty3 1 rfl rfl rfl (src_slV ty22 hxs zin0) bQ rfl (by decide)) ?_
       clear hF hS; rintro v_1_7 _ _ a w ⟨rfl, rfl⟩ hF hS
       refine ⟨⟨.inr (hS.k1 (sQ.n.n.n.n)), .inr hS.k0, iQ, iQ, iQ, iQ, trivial⟩, ?_⟩
       refine gQ 8 rfl rfl hF hS rfl (ef_bslice0 ty24 ty4) ?_
       clear hF hS; rintro v_1_8 _ _ a w ⟨rfl, rfl⟩ hF hS
       refine ⟨⟨.inr (hS.k1 (sQ.n.n.n.n.n)), .inr hS.k0, iQ, iQ, iQ, iQ, trivial⟩, ?_⟩
       refine gQ 11 rfl rfl hF hS rfl (ef_append ty24 ty4 0 rfl rfl rfl (src_slV ty24 hxb zin0) bQ rfl (by decide)) ?_
       clear hF hS; rintro v_1_11 _ _ a w ⟨rfl, rfl⟩ hF hS
       refine ⟨⟨iQ, iQ, iQ, iQ, iQ, iQ, trivial⟩, ?_⟩
       refine goW_take 12 _ rfl kQ rfl hF (hS.keep sQ (zQ.k.k.n.k)) (q_buildS1 ty26 3 kQ rfl rfl (oc_cons (row_one (hS.own _ (List.mem_of_getElem? (i := 3) rfl)).1) (oc_cons (row_one (hS.own _ (List.mem_of_getElem? (i := 2) rfl)).1) (oc_cons (row_one (hS.own _ (List.mem_of_getElem? (i := 0) rfl)).1) oc_nil))) rfl rfl) ?_
       clear hF; intro a hF
       refine gQ 14 rfl rfl hF hS rfl (ef_storeW ty26 1 rfl rfl rfl rfl bQ (oc_cons (row_one (hS.own _ (List.mem_of_getElem? (i := 3) rfl)).1) (oc_cons (row_one (hS.own _ (List.mem_of_getElem? (i := 2) rfl)).1) (oc_cons (row_one (hS.own _ (List.mem_of_getElem? (i := 0) rfl)).1) oc_nil))) bQ) ?_
       clear hF hS; rintro _ _ _ a w ⟨rfl, rfl, rfl⟩ hF hS
       refine ⟨⟨iQ, iQ, iQ, iQ, iQ, iQ, iQ, trivial⟩, ?_⟩
       exact goW_done kQ (j7_mk v_1_0 v_1_3 v_1_4 v_1_7 v_1_8 v_1_11 b_1_13 (trivial) (hF.sub (L' := [(1, _), (2, _), (6, _), (7, _)]) ⟨rfl, rfl, rfl, rfl, trivial⟩) (hS.perm (.swap _ _ _)))
      ·refine stepW_ef _ rfl rfl hF hS rfl (ef_bslice0 ty24 ty4) ?_
       clear hF hS; rintro v_1_8 _ _ a w ⟨rfl, rfl⟩ hF hS
       refine ⟨⟨.inr (hS.k1 (sQ.n.n.n.n.n)), .inr hS.k0, .inr (hS.k1 (sQ.n.n.n.n.n)), .inr hS.k0, iQ, iQ, trivial⟩, ?_⟩
       refine gQ 7 rfl rfl hF hS rfl (ef_append ty22 ty3 2 rfl rfl rfl (src_slV ty22 hxs zin0) bQ rfl (by decide)) ?_
       clear hF hS; rintro v_1_7 _ _ a w ⟨rfl, rfl⟩ hF hS
       refine ⟨⟨.inr (hS.k1 (sQ.n.n.n.n.n)), .inr hS.k0, iQ, iQ, iQ, iQ, trivial⟩, ?_⟩
       refine gQ 11 rfl rfl hF hS rfl (ef_append ty24 ty4 0 rfl rfl rfl (src_slV ty24 hxb zin0) bQ rfl (by decide)) ?_
       clear hF hS; rintro v_1_11 _ _ a w ⟨rfl, rfl⟩ hF hS
       refine ⟨⟨iQ, iQ, iQ, iQ, iQ, iQ, trivial⟩, ?_⟩
       refine goW_take 12 _ rfl kQ rfl hF (hS.keep sQ (zQ.k.k.n.k)) (q_buildS1 ty26 3 kQ rfl rfl (oc_cons (row_one (hS.own _ (List.mem_of_getElem? (i := 3) rfl)).1) (oc_cons (row_one (hS.own _ (List.mem_of_getElem? (i := 2) rfl)).1) (oc_cons (row_one (hS.own _ (List.mem_of_getElem? (i := 0) rfl)).1) oc_nil))) rfl rfl) ?_
       clear hF; intro a hF
       refine gQ 14 rfl rfl hF hS rfl (ef_storeW ty26 1 rfl rfl rfl rfl bQ (oc_cons (row_one (hS.own _ (List.mem_of_getElem? (i := 3) rfl)).1) (oc_cons (row_one (hS.own _ (List.mem_of_getElem? (i := 2) rfl)).1) (oc_cons (row_one (hS.own _ (List.mem_of_getElem? (i := 0) rfl)).1) oc_nil))) bQ) ?_
       clear hF hS; rintro _ _ _ a w ⟨rfl, rfl, rfl⟩ hF hS
       refine ⟨⟨iQ, iQ, iQ, iQ, iQ, iQ, iQ, trivial⟩, ?_⟩
       exact goW_done kQ (j7_mk v_1_0 v_1_3 v_1_4 v_1_7 v_1_8 v_1_11 b_1_13 (trivial) (hF.sub (L' := [(1, _), (2, _), (6, _), (7, _)]) ⟨rfl, rfl, rfl, rfl, trivial⟩) (hS.perm (.swap _ _ _)))
    ·refine stepW_ef _ rfl rfl hF hS rfl (ef_bslice0 ty24 ty4) ?_
     clear hF hS; rintro v_1_8 _ _ a w ⟨rfl, rfl⟩ hF hS
     refine ⟨⟨.inr (hS.k1 (sQ.n.n.n)), .inr hS.k0, .inr (hS.k1 (sQ.n.n.n)), .inr hS.k0, iQ, iQ, trivial⟩, ?_⟩
     refine goW_fork [4, 13] kQ rfl ⟨?_, ?_, trivial⟩
     ·refine stepW_ef _ rfl rfl hF hS rfl (ef_bslice0 ty22 ty3) ?_
      clear hF hS; rintro v_1_4 _ _ a w ⟨rfl, rfl⟩ hF hS
      refine ⟨⟨.inr (hS.k1 (sQ.n.n.n.n)), .inr hS.k0, .inr (hS.k1 (sQ.n.n.n.n)), .inr hS.k0, iQ, iQ, trivial⟩, ?_⟩
      refine goW_fork [7, 13] kQ rfl ⟨?_, ?_, trivial⟩
      ·refine stepW_ef _ rfl rfl hF hS rfl (ef_append ty22 ty3 0 rfl rfl rfl (src_slV ty22 hxs zin0) bQ rfl (by decide)) ?_
       clear hF hS; rintro v_1_7 _ _ a w ⟨rfl, rfl⟩ hF hS
       refine ⟨⟨.inr (hS.k1 (sQ.n.n.n.n)), .inr hS.k0, iQ, iQ, iQ, iQ, trivial⟩, ?_⟩
       refine goW_fork [11, 13] kQ rfl ⟨?_, ?_, trivial⟩
       ·refine stepW_ef _ rfl rfl hF hS rfl (ef_append ty24 ty4 1 rfl rfl rfl (src_slV ty24 hxb zin0) bQ rfl (by decide)) ?_
        clear hF hS; rintro v_1_11 _ _ a w ⟨rfl, rfl⟩ hF hS
        refine ⟨⟨iQ, iQ, iQ, iQ, iQ, iQ, trivial⟩, ?_⟩
        refine goW_take 12 _ rfl kQ rfl hF (hS.keep sQ (zQ.k.k.k)) (q_buildS1 ty26 3 kQ rfl rfl (oc_cons (row_one (hS.own _ (List.mem_of_getElem? (i := 2) rfl)).1) (oc_cons (row_one (hS.own _ (List.mem_of_getElem? (i := 0) rfl)).1) (oc_cons (row_one (hS.own _ (List.mem_of_getElem? (i := 1) rfl)).1) oc_nil))) rfl rfl) ?_
        clear hF; intro a hF
        refine gQ 13 rfl rfl hF hS rfl (ef_allocA ty26) ?_
        clear hF hS; rintro _ _ _ a w ⟨b_1_13, rfl, rfl, rfl⟩ hF hS
        refine ⟨⟨.inr (hS.k1 (zQ.k.k.k.n)), iQ, iQ, iQ, iQ, iQ, iQ, trivial⟩, ?_⟩
        refine gQ 14 rfl rfl hF hS rfl (ef_storeW ty26 0 rfl rfl rfl rfl bQ (oc_cons (row_one (hS.own _ (List.mem_of_getElem? (i := 3) rfl)).1) (oc_cons (row_one (hS.own _ (List.mem_of_getElem? (i := 1) rfl)).1) (oc_cons (row_one (hS.own _ (List.mem_of_getElem? (i := 2) rfl)).1) oc_nil))) bQ) ?_
        clear hF hS; rintro _ _ _ a w ⟨rfl, rfl, rfl⟩ hF hS
        refine ⟨⟨iQ, iQ, iQ, iQ, iQ, iQ, iQ, trivial⟩, ?_⟩
        exact goW_done kQ (j7_mk v_1_0 v_1_3 v_1_4 v_1_7 v_1_8 v_1_11 b_1_13 (trivial) (hF.sub (L' := [(1, _), (2, _), (6, _), (7, _)]) ⟨rfl, rfl, rfl, rfl, trivial⟩) (hS.perm (.cons _ (.swap _ _ _))))
       ·refine stepW_ef _ rfl rfl hF hS rfl (ef_allocA ty26) ?_
        clear hF hS; rintro _ _ _ a w ⟨b_1_13, rfl, rfl, rfl⟩ hF hS
        refine ⟨⟨.inr (hS.k1 (sQ.n.n.n.n.n)), .inr hS.k0, iQ, iQ, iQ, iQ, trivial⟩, ?_⟩
        refine gQ 11 rfl rfl hF hS rfl (ef_append ty24 ty4 2 rfl rfl rfl (src_slV ty24 hxb zin0) bQ rfl (by decide)) ?_
        clear hF hS; rintro v_1_11 _ _ a w ⟨rfl, rfl⟩ hF hS
        refine ⟨⟨iQ, iQ, iQ, iQ, iQ, iQ, trivial⟩, ?_⟩
        refine goW_take 12 _ rfl kQ rfl hF (hS.keep sQ (zQ.k.k.k.n)) (q_buildS1 ty26 3 kQ rfl rfl (oc_cons (row_one (hS.own _ (List.mem_of_getElem? (i := 3) rfl)).1) (oc_cons (row_one (hS.own _ (List.mem_of_getElem? (i := 1) rfl)).1) (oc_cons (row_one (hS.own _ (List.mem_of_getElem? (i := 2) rfl)).1) oc_nil))) rfl rfl) ?_
        clear hF; intro a hF
        refine gQ 14 rfl rfl hF hS rfl (ef_storeW ty26 0 rfl rfl rfl rfl bQ (oc_cons (row_one (hS.own _ (List.mem_of_getElem? (i := 3) rfl)).1) (oc_cons (row_one (hS.own _ (List.mem_of_getElem? (i := 1) rfl)).1) (oc_cons (row_one (hS.own _ (List.mem_of_getElem? (i := 2) rfl)).1) oc_nil))) bQ) ?_
        clear hF hS; rintro _ _ _ a w ⟨rfl, rfl, rfl⟩ hF hS
        refine ⟨⟨iQ, iQ, iQ, iQ, iQ, iQ, iQ, trivial⟩, ?_⟩
        exact goW_done kQ (j7_mk v_1_0 v_1_3 v_1_4 v_1_7 v_1_8 v_1_11 b_1_13 (trivial) (hF.sub (L' := [(1, _), (2, _), (6, _), (7, _)]) ⟨rfl, rfl, rfl, rfl, trivial⟩) (hS.perm (.cons _ (.swap _ _ _))))
      ·refine stepW_ef _ rfl rfl hF hS rfl (ef_allocA ty26) ?_
       clear hF hS; rintro _ _ _ a w ⟨b_1_13, rfl, rfl, rfl⟩ hF hS
       refine ⟨⟨.inr (hS.k1 (sQ.n.n.n.n.n)), .inr hS.k0, .inr (hS.k1 (sQ.n.n.n.n.n)), .inr hS.k0, iQ, iQ, trivial⟩, ?_⟩
       refine gQ 7 rfl rfl hF hS rfl (ef_append ty22 ty3 1 rfl rfl rfl (src_slV ty22 hxs zin0) bQ rfl (by decide)) ?_
       clear hF hS; rintro v_1_7 _ _ a w ⟨rfl, rfl⟩ hF hS
       refine ⟨⟨.inr (hS.k1 (sQ.n.n.n.n.n)), .inr hS.k0, iQ, iQ, iQ, iQ, trivial⟩, ?_⟩
       refine gQ 11 rfl rfl hF hS rfl (ef_append ty24 ty4 2 rfl rfl rfl (src_slV ty24 hxb zin0) bQ rfl (by decide)) ?_
       clear hF hS; rintro v_1_11 _ _ a w ⟨rfl, rfl⟩ hF hS
       refine ⟨⟨iQ, iQ, iQ, iQ, iQ, iQ, trivial⟩, ?_⟩
       refine goW_take 12 _ rfl kQ rfl hF (hS.keep sQ (zQ.k.k.k.n)) (q_buildS1 ty26 3 kQ rfl rfl (oc_cons (row_one (hS.own _ (List.mem_of_getElem? (i := 3) rfl)).1) (oc_cons (row_one (hS.own _ (List.mem_of_getElem? (i := 1) rfl)).1) (oc_cons (row_one (hS.own _ (List.mem_of_getElem? (i := 2) rfl)).1) oc_nil))) rfl rfl) ?_
       clear hF; intro a hF
       refine gQ 14 rfl rfl hF hS rfl (ef_storeW ty26 0 rfl rfl rfl rfl bQ (oc_cons (row_one (hS.own _ (List.mem_of_getElem? (i := 3) rfl)).1) (oc_cons (row_one (hS.own _ (List.mem_of_getElem? (i := 1) rfl)).1) (oc_cons (row_one (hS.own _ (List.mem_of_getElem? (i := 2) rfl)).1) oc_nil))) bQ) ?_
       clear hF hS; rintro _ _ _ a w ⟨rfl, rfl, rfl⟩ hF hS
       refine ⟨⟨iQ, iQ, iQ, iQ, iQ, iQ, iQ, trivial⟩, ?_⟩
       exact goW_done kQ (j7_mk v_1_0 v_1_3 v_1_4 v_1_7 v_1_8 v_1_11 b_1_13 (trivial) (hF.sub (L' := [(1, _), (2, _), (6, _), (7, _)]) ⟨rfl, rfl, rfl, rfl, trivial⟩) (hS.perm (.cons _ (.swap _ _ _))))
     ·refine stepW_ef _ rfl rfl hF hS rfl (ef_allocA ty26) ?_
      clear hF hS; rintro _ _ _ a w ⟨b_1_13, rfl, rfl, rfl⟩ hF hS
      refine ⟨⟨.inr (hS.k1 (sQ.n.n.n.n)), .inr hS.k0, .inr (hS.k1 (sQ.n.n.n.n)), .inr hS.k0, iQ, iQ, trivial⟩, ?_⟩
      refine gQ 4 rfl rfl hF hS rfl (ef_bslice0 ty22 ty3) ?_
      clear hF hS; rintro v_1_4 _ _ a w ⟨rfl, rfl⟩ hF hS
      refine ⟨⟨.inr (hS.k1 (sQ.n.n.n.n.n)), .inr hS.k0, .inr (hS.k1 (sQ.n.n.n.n.n)), .inr hS.k0, iQ, iQ, trivial⟩, ?_⟩
      refine gQ 7 rfl rfl hF hS rfl (ef_append ty22 ty3 0 rfl rfl rfl (src_slV ty22 hxs zin0) bQ rfl (by decide)) ?_
      clear hF hS; rintro v_1_7 _ _ a w ⟨rfl, rfl⟩ hF hS
      refine ⟨⟨.inr (hS.k1 (sQ.n.n.n.n.n)), .inr hS.k0, iQ, iQ, iQ, iQ, trivial⟩, ?_⟩
      refine gQ 11 rfl rfl hF hS rfl (ef_append ty24 ty4 2 rfl rfl rfl (src_slV ty24 hxb zin0) bQ rfl (by decide)) ?_
      clear hF hS; rintro v_1_11 _ _ a w ⟨rfl, rfl⟩ hF hS
      refine ⟨⟨iQ, iQ, iQ, iQ, iQ, iQ, trivial⟩, ?_⟩
      refine goW_take 12 _ rfl kQ rfl hF (hS.keep sQ (zQ.k.k.n.k)) (q_buildS1 ty26 3 kQ rfl rfl (oc_cons (row_one (hS.own _ (List.mem_of_getElem? (i := 3) rfl)).1) (oc_cons (row_one (hS.own _ (List.mem_of_getElem? (i := 0) rfl)).1) (oc_cons (row_one (hS.own _ (List.mem_of_getElem? (i := 2) rfl)).1) oc_nil))) rfl rfl) ?_
      clear hF; intro a hF
      refine gQ 14 rfl rfl hF hS rfl (ef_storeW ty26 1 rfl rfl rfl rfl bQ (oc_cons (row_one (hS.own _ (List.mem_of_getElem? (i := 3) rfl)).1) (oc_cons (row_one (hS.own _ (List.mem_of_getElem? (i := 0) rfl)).1) (oc_cons (row_one (hS.own _ (List.mem_of_getElem? (i := 2) rfl)).1) oc_nil))) bQ) ?_
      clear hF hS; rintro _ _ _ a w ⟨rfl, rfl, rfl⟩ hF hS
      refine ⟨⟨iQ, iQ, iQ, iQ, iQ, iQ, iQ, trivial⟩, ?_⟩
      exact goW_done kQ (j7_mk v_1_0 v_1_3 v_1_4 v_1_7 v_1_8 v_1_11 b_1_13 (trivial) (hF.sub (L' := [(1, _), (2, _), (6, _), (7, _)]) ⟨rfl, rfl, rfl, rfl, trivial⟩) ((hS.perm (.swap _ _ _)).perm (.cons _ (.swap _ _ _))))
    ·refine stepW_ef _ rfl rfl hF hS rfl (ef_allocA ty26) ?_
     clear hF hS; rintro _ _ _ a w ⟨b_1_13, rfl, rfl, rfl⟩ hF hS
     refine ⟨⟨.inr (hS.k1 (sQ.n.n.n)), .inr hS.k0, .inr (hS.k1 (sQ.n.n.n)), .inr hS.k0, iQ, iQ, trivial⟩, ?_⟩
     refine goW_fork [4, 8] kQ rfl ⟨?_, ?_, trivial⟩
     ·refine stepW_ef _ rfl rfl hF hS rfl (ef_bslice0 ty22 ty3) ?_
      clear hF hS; rintro v_1_4 _ _ a w ⟨rfl, rfl⟩ hF hS
      refine ⟨⟨.inr (hS.k1 (sQ.n.n.n.n)), .inr hS.k0, .inr (hS.k1 (sQ.n.n.n.n)), .inr hS.k0, iQ, iQ, trivial⟩, ?_⟩
      refine goW_fork [7, 8] kQ rfl ⟨?_, ?_, trivial⟩
      ·refine stepW_ef _ rfl rfl hF hS rfl (ef_append ty22 ty3 0 rfl rfl rfl (src_slV ty22 hxs zin0) bQ rfl (by decide)) ?_
       clear hF hS; rintro v_1_7 _ _ a w ⟨rfl, rfl⟩ hF hS
       refine ⟨⟨.inr (hS.k1 (sQ.n.n.n.n)), .inr hS.k0, iQ, iQ, iQ, iQ, trivial⟩, ?_⟩
       refine gQ 8 rfl rfl hF hS rfl (ef_bslice0 ty24 ty4) ?_
       clear hF hS; rintro v_1_8 _ _ a w ⟨rfl, rfl⟩ hF hS
       refine ⟨⟨.inr (hS.k1 (sQ.n.n.n.n.n)), .inr hS.k0, iQ, iQ, iQ, iQ, trivial⟩, ?_⟩
       refine gQ 11 rfl rfl hF hS rfl (ef_append ty24 ty4 0 rfl rfl rfl (src_slV ty24 hxb zin0) bQ rfl (by decide)) ?_
       clear hF hS; rintro v_1_11 _ _ a w ⟨rfl, rfl⟩ hF hS
       refine ⟨⟨iQ, iQ, iQ, iQ, iQ, iQ, trivial⟩, ?_⟩
       refine goW_take 12 _ rfl kQ rfl hF (hS.keep sQ (zQ.k.n.k.k)) (q_buildS1 ty26 3 kQ rfl rfl (oc_cons (row_one (hS.own _ (List.mem_of_getElem? (i := 3) rfl)).1) (oc_cons (row_one (hS.own _ (List.mem_of_getElem? (i := 1) rfl)).1) (oc_cons (row_one (hS.own _ (List.mem_of_getElem? (i := 0) rfl)).1) oc_nil))) rfl rfl) ?_
       clear hF; intro a hF
       refine gQ 14 rfl rfl hF hS rfl (ef_storeW ty26 2 rfl rfl rfl rfl bQ (oc_cons (row_one (hS.own _ (List.mem_of_getElem? (i := 3) rfl)).1) (oc_cons (row_one (hS.own _ (List.mem_of_getElem? (i := 1) rfl)).1) (oc_cons (row_one (hS.own _ (List.mem_of_getElem? (i := 0) rfl)).1) oc_nil))) bQ) ?_
       clear hF hS; rintro _ _ _ a w ⟨rfl, rfl, rfl⟩ hF hS
       refine ⟨⟨iQ, iQ, iQ, iQ, iQ, iQ, iQ, trivial⟩, ?_⟩
       exact goW_done kQ (j7_mk v_1_0 v_1_3 v_1_4 v_1_7 v_1_8 v_1_11 b_1_13 (trivial) (hF.sub (L' := [(1, _), (2, _), (6, _), (7, _)]) ⟨rfl, rfl, rfl, rfl, trivial⟩) ((hS.perm (.cons _ (.swap _ _ _))).perm (.swap _ _ _)))
      ·refine stepW_ef _ rfl rfl hF hS rfl (ef_bslice0 ty24 ty4) ?_
       clear hF hS; rintro v_1_8 _ _ a w ⟨rfl, rfl⟩ hF hS
       refine ⟨⟨.inr (hS.k1 (sQ.n.n.n.n.n)), .inr hS.k0, .inr (hS.k1 (sQ.n.n.n.n.n)), .inr hS.k0, iQ, iQ, trivial⟩, ?_⟩
       refine gQ 7 rfl rfl hF hS rfl (ef_append ty22 ty3 1 rfl rfl rfl (src_slV ty22 hxs zin0) bQ rfl (by decide)) ?_
       clear hF hS; rintro v_1_7 _ _ a w ⟨rfl, rfl⟩ hF hS
       refine ⟨⟨.inr (hS.k1 (sQ.n.n.n.n.n)), .inr hS.k0, iQ, iQ, iQ, iQ, trivial⟩, ?_⟩
       refine gQ 11 rfl rfl hF hS rfl (ef_append ty24 ty4 0 rfl rfl rfl (src_slV ty24 hxb zin0) bQ rfl (by decide)) ?_
       clear hF hS; rintro v_1_11 _ _ a w ⟨rfl, rfl⟩ hF hS
       refine ⟨⟨iQ, iQ, iQ, iQ, iQ, iQ, trivial⟩, ?_⟩
       refine goW_take 12 _ rfl kQ rfl hF (hS.keep sQ (zQ.k.n.k.k)) (q_buildS1 ty26 3 kQ rfl rfl (oc_cons (row_one (hS.own _ (List.mem_of_getElem? (i := 3) rfl)).1) (oc_cons (row_one (hS.own _ (List.mem_of_getElem? (i := 1) rfl)).1) (oc_cons (row_one (hS.own _ (List.mem_of_getElem? (i := 0) rfl)).1) oc_nil))) rfl rfl) ?_
       clear hF; intro a hF
       refine gQ 14 rfl rfl hF hS rfl (ef_storeW ty26 2 rfl rfl rfl rfl bQ (oc_cons (row_one (hS.own _ (List.mem_of_getElem? (i := 3) rfl)).1) (oc_cons (row_one (hS.own _ (List.mem_of_getElem? (i := 1) rfl)).1) (oc_cons (row_one (hS.own _ (List.mem_of_getElem? (i := 0) rfl)).1) oc_nil))) bQ) ?_
       clear hF hS; rintro _ _ _ a w ⟨rfl, rfl, rfl⟩ hF hS
       refine ⟨⟨iQ, iQ, iQ, iQ, iQ, iQ, iQ, trivial⟩, ?_⟩
       exact goW_done kQ (j7_mk v_1_0 v_1_3 v_1_4 v_1_7 v_1_8 v_1_11 b_1_13 (trivial) (hF.sub (L' := [(1, _), (2, _), (6, _), (7, _)]) ⟨rfl, rfl, rfl, rfl, trivial⟩) ((hS.perm (.cons _ (.swap _ _ _))).perm (.swap _ _ _)))
     ·refine stepW_ef _ rfl rfl hF hS rfl (ef_bslice0 ty24 ty4) ?_
      clear hF hS; rintro v_1_8 _ _ a w ⟨rfl, rfl⟩ hF hS
      refine ⟨⟨.inr (hS.k1 (sQ.n.n.n.n)), .inr hS.k0, .inr (hS.k1 (sQ.n.n.n.n)), .inr hS.k0, iQ, iQ, trivial⟩, ?_⟩
      refine gQ 4 rfl rfl hF hS rfl (ef_bslice0 ty22 ty3) ?_
      clear hF hS; rintro v_1_4 _ _ a w ⟨rfl, rfl⟩ hF hS
      refine ⟨⟨.inr (hS.k1 (sQ.n.n.n.n.n)), .inr hS.k0, .inr (hS.k1 (sQ.n.n.n.n.n)), .inr hS.k0, iQ, iQ, trivial⟩, ?_⟩
      refine gQ 7 rfl rfl hF hS rfl (ef_append ty22 ty3 0 rfl rfl rfl (src_slV ty22 hxs zin0) bQ rfl (by decide)) ?_
      clear hF hS; rintro v_1_7 _ _ a w ⟨rfl, rfl⟩ hF hS
      refine ⟨⟨.inr (hS.k1 (sQ.n.n.n.n.n)), .inr hS.k0, iQ, iQ, iQ, iQ, trivial⟩, ?_⟩
      refine gQ 11 rfl rfl hF hS rfl (ef_append ty24 ty4 1 rfl rfl rfl (src_slV ty24 hxb zin0) bQ rfl (by decide)) ?_
      clear hF hS; rintro v_1_11 _ _ a w ⟨rfl, rfl⟩ hF hS
      refine ⟨⟨iQ, iQ, iQ, iQ, iQ, iQ, trivial⟩, ?_⟩
      refine goW_take 12 _ rfl kQ rfl hF (hS.keep sQ (zQ.k.n.k.k)) (q_buildS1 ty26 3 kQ rfl rfl (oc_cons (row_one (hS.own _ (List.mem_of_getElem? (i := 3) rfl)).1) (oc_cons (row_one (hS.own _ (List.mem_of_getElem? (i := 0) rfl)).1) (oc_cons (row_one (hS.own _ (List.mem_of_getElem? (i := 1) rfl)).1) oc_nil))) rfl rfl) ?_
      clear hF; intro a hF
      refine gQ 14 rfl rfl hF hS rfl (ef_storeW ty26 2 rfl rfl rfl rfl bQ (oc_cons (row_one (hS.own _ (List.mem_of_getElem? (i := 3) rfl)).1) (oc_cons (row_one (hS.own _ (List.mem_of_getElem? (i := 0) rfl)).1) (oc_cons (row_one (hS.own _ (List.mem_of_getElem? (i := 1) rfl)).1) oc_nil))) bQ) ?_
      clear hF hS; rintro _ _ _ a w ⟨rfl, rfl, rfl⟩ hF hS
      refine ⟨⟨iQ, iQ, iQ, iQ, iQ, iQ, iQ, trivial⟩, ?_⟩
      exact goW_done kQ (j7_mk v_1_0 v_1_3 v_1_4 v_1_7 v_1_8 v_1_11 b_1_13 (trivial) (hF.sub (L' := [(1, _), (2, _), (6, _), (7, _)]) ⟨rfl, rfl, rfl, rfl, trivial⟩) (((hS.perm (.cons _ (.swap _ _ _))).perm (.swap _ _ _)).perm (.cons _ (.swap _ _ _))))
   ·refine stepW_ef _ rfl rfl hF hS rfl (ef_bslice0 ty22 ty3) ?_
    clear hF hS; rintro v_1_4 _ _ a w ⟨rfl, rfl⟩ hF hS
    refine ⟨⟨.inr (hS.k1 (sQ.n.n.n)), .inr hS.k0, .inr (hS.k1 (sQ.n.n.n)), .inr hS.k0, .inr (hS.k1 (sQ.n.n.n)), .inr hS.k0, trivial⟩, ?_⟩
    refine goW_fork [3, 8, 13] kQ rfl ⟨?_, ?_, ?_, trivial⟩
    ·refine stepW_ef _ rfl rfl hF hS rfl (ef_append ty23 ty83 1 rfl rfl rfl (src_slC ty23 hxn zin0 (by decide)) bQ rfl (by decide)) ?_
     clear hF hS; rintro v_1_3 _ _ a w ⟨rfl, rfl⟩ hF hS
     refine ⟨⟨.inr (hS.k1 (sQ.n.n.n)), .inr hS.k0, .inr (hS.k1 (sQ.n.n.n)), .inr hS.k0, iQ, iQ, trivial⟩, ?_⟩
     refine goW_fork [7, 8, 13] kQ rfl ⟨?_, ?_, ?_, trivial⟩
     ·refine stepW_ef _ rfl rfl hF hS rfl (ef_append ty22 ty3 0 rfl rfl rfl (src_slV ty22 hxs zin0) bQ rfl (by decide)) ?_
      clear hF hS; rintro v_1_7 _ _ a w ⟨rfl, rfl⟩ hF hS
      refine ⟨⟨.inr (hS.k1 (sQ.n.n.n)), .inr hS.k0, iQ, iQ, iQ, iQ, trivial⟩, ?_⟩
      refine goW_fork [8, 13] kQ rfl ⟨?_, ?_, trivial⟩
      ·refine stepW_ef _ rfl rfl hF hS rfl (ef_bslice0 ty24 ty4) ?_
       clear hF hS; rintro v_1_8 _ _ a w ⟨rfl, rfl⟩ hF hS
       refine ⟨⟨.inr (hS.k1 (sQ.n.n.n.n)), .inr hS.k0, iQ, iQ, iQ, iQ, trivial⟩, ?_⟩
       refine goW_fork [11, 13] kQ rfl ⟨?_, ?_, trivial⟩
       ·refine stepW_ef _ rfl rfl hF hS rfl (ef_append ty24 ty4 0 rfl rfl rfl (src_slV ty24 hxb zin0) bQ rfl (by decide)) ?_
        clear hF hS; rintro v_1_11 _ _ a w ⟨rfl, rfl⟩ hF hS
        refine ⟨⟨iQ, iQ, iQ, iQ, iQ, iQ, trivial⟩, ?_⟩
        refine goW_take 12 _ rfl kQ rfl hF (hS.keep sQ (zQ.k.k.k)) (q_buildS1 ty26 3 kQ rfl rfl (oc_cons (row_one (hS.own _ (List.mem_of_getElem? (i := 2) rfl)).1) (oc_cons (row_one (hS.own _ (List.mem_of_getElem? (i := 1) rfl)).1) (oc_cons (row_one (hS.own _ (List.mem_of_getElem? (i := 0) rfl)).1) oc_nil))) rfl rfl) ?_
        clear hF; intro a hF
        refine gQ 13 rfl rfl hF hS rfl (ef_allocA ty26) ?_
        clear hF hS; rintro _ _ _ a w ⟨b_1_13, rfl, rfl, rfl⟩ hF hS
        refine ⟨⟨.inr (hS.k1 (zQ.k.k.k.n)), iQ, iQ, iQ, iQ, iQ, iQ, trivial⟩, ?_⟩
        refine gQ 14 rfl rfl hF hS rfl (ef_storeW ty26 0 rfl rfl rfl rfl bQ (oc_cons (row_one (hS.own _ (List.mem_of_getElem? (i := 3) rfl)).1) (oc_cons (row_one (hS.own _ (List.mem_of_getElem? (i := 2) rfl)).1) (oc_cons (row_one (hS.own _ (List.mem_of_getElem? (i := 1) rfl)).1) oc_nil))) bQ) ?_
        clear hF hS; rintro _ _ _ a w ⟨rfl, rfl, rfl⟩ hF hS
        refine ⟨⟨iQ, iQ, iQ, iQ, iQ, iQ, iQ, trivial⟩, ?_⟩
        exact goW_done kQ (j7_mk v_1_0 v_1_3 v_1_4 v_1_7 v_1_8 v_1_11 b_1_13 (trivial) (hF.sub (L' := [(1, _), (2, _), (6, _), (7, _)]) ⟨rfl, rfl, rfl, rfl, trivial⟩) hS)
       ·refine stepW_ef _ rfl rfl hF hS rfl (ef_allocA ty26) ?_
        clear hF hS; rintro _ _ _ a w ⟨b_1_13, rfl, rfl, rfl⟩ hF hS
        refine ⟨⟨.inr (hS.k1 (sQ.n.n.n.n.n)), .inr hS.k0, iQ, iQ, iQ, iQ, trivial⟩, ?_⟩
        refine gQ 11 rfl rfl hF hS rfl (ef_append ty24 ty4 1 rfl rfl rfl (src_slV ty24 hxb zin0) bQ rfl (by decide)) ?_
        clear hF hS; rintro v_1_11 _ _ a w ⟨rfl, rfl⟩ hF hS
        refine ⟨⟨iQ, iQ, iQ, iQ, iQ, iQ, trivial⟩, ?_⟩
        refine goW_take 12 _ rfl kQ rfl hF (hS.keep sQ (zQ.k.k.k.n)) (q_buildS1 ty26 3 kQ rfl rfl (oc_cons (row_one (hS.own _ (List.mem_of_getElem? (i := 3) rfl)).1) (oc_cons (row_one (hS.own _ (List.mem_of_getElem? (i := 2) rfl)).1) (oc_cons (row_one (hS.own _ (List.mem_of_getElem? (i := 1) rfl)).1) oc_nil))) rfl rfl) ?_
        clear hF; intro a hF
        refine gQ 14 rfl rfl hF hS rfl (ef_storeW ty26 0 rfl rfl rfl rfl bQ (oc_cons (row_one (hS.own _ (List.mem_of_getElem? (i := 3) rfl)).1) (oc_cons (row_one (hS.own _ (List.mem_of_getElem? (i := 2) rfl)).1) (oc_cons (row_one (hS.own _ (List.mem_of_getElem? (i := 1) rfl)).1) oc_nil))) bQ) ?_
        clear hF hS; rintro _ _ _ a w ⟨rfl, rfl, rfl⟩ hF hS
        refine ⟨⟨iQ, iQ, iQ, iQ, iQ, iQ, iQ, trivial⟩, ?_⟩
        exact goW_done kQ (j7_mk v_1_0 v_1_3 v_1_4 v_1_7 v_1_8 v_1_11 b_1_13 (trivial) (hF.sub (L' := [(1, _), (2, _), (6, _), (7, _)]) ⟨rfl, rfl, rfl, rfl, trivial⟩) hS)
      ·refine stepW_ef _ rfl rfl hF hS rfl (ef_allocA ty26) ?_
       clear hF hS; rintro _ _ _ a w ⟨b_1_13, rfl, rfl, rfl⟩ hF hS
       refine ⟨⟨.inr (hS.k1 (sQ.n.n.n.n)), .inr hS.k0, iQ, iQ, iQ, iQ, trivial⟩, ?_⟩
       refine gQ 8 rfl rfl hF hS rfl (ef_bslice0 ty24 ty4) ?_
       clear hF hS; rintro v_1_8 _ _ a w ⟨rfl, rfl⟩ hF hS
       refine ⟨⟨.inr (hS.k1 (sQ.n.n.n.n.n)), .inr hS.k0, iQ, iQ, iQ, iQ, trivial⟩, ?_⟩
       refine gQ 11 rfl rfl hF hS rfl (ef_append ty24 ty4 0 rfl rfl rfl (src_slV ty24 hxb zin0) bQ rfl (by decide)) ?_
       clear hF hS; rintro v_1_11 _ _ a w ⟨rfl, rfl⟩ hF hS
       refine ⟨⟨iQ, iQ, iQ, iQ, iQ, iQ, trivial⟩, ?_⟩
       refine goW_take 12 _ rfl kQ rfl hF (hS.keep sQ (zQ.k.k.n.k)) (q_buildS1 ty26 3 kQ rfl rfl (oc_cons (row_one (hS.own _ (List.mem_of_getElem? (i := 3) rfl)).1) (oc_cons (row_one (hS.own _ (List.mem_of_getElem? (i := 2) rfl)).1) (oc_cons (row_one (hS.own _ (List.mem_of_getElem? (i := 0) rfl)).1) oc_nil))) rfl rfl) ?_
       clear hF; intro a hF
       refine gQ 14 rfl rfl hF hS rfl (ef_storeW ty26 1 rfl rfl rfl rfl bQ (oc_cons (row_one (hS.own _ (List.mem_of_getElem? (i := 3) rfl)).1) (oc_cons (row_one (hS.own _ (List.mem_of_getElem? (i := 2) rfl)).1) (oc_cons (row_one (hS.own _ (List.mem_of_getElem? (i := 0) rfl)).1) oc_nil))) bQ) ?_
       clear hF hS; rintro _ _ _ a w ⟨rfl, rfl, rfl⟩ hF hS
       refine ⟨⟨iQ, iQ, iQ, iQ, iQ, iQ, iQ, trivial⟩, ?_⟩
       exact goW_done kQ (j7_mk v_1_0 v_1_3 v_1_4 v_1_7 v_1_8 v_1_11 b_1_13 (trivial) (hF.sub (L' := [(1, _), (2, _), (6, _), (7, _)]) ⟨rfl, rfl, rfl, rfl, trivial⟩) (hS.perm (.swap _ _ _)))
     ·refine stepW_ef _ rfl rfl hF hS rfl (ef_bslice0 ty24 ty4) ?_
      clear hF hS; rintro v_1_8 _ _ a w ⟨rfl, rfl⟩ hF hS
      refine ⟨⟨.inr (hS.k1 (sQ.n.n.n.n)), .inr hS.k0, .inr (hS.k1 (sQ.n.n.n.n)), .inr hS.k0, iQ, iQ, trivial⟩, ?_⟩
      refine goW_fork [7, 13] kQ rfl ⟨?_, ?_, trivial⟩
      ·refine stepW_ef _ rfl rfl hF hS rfl (ef_append ty22 ty3 1 rfl rfl rfl (src_slV ty22 hxs zin0) bQ rfl (by decide)) ?_
       clear hF hS; rintro v_1_7 _ _ a w ⟨rfl, rfl⟩ hF hS
       refine ⟨⟨.inr (hS.k1 (sQ.n.n.n.n)), .inr hS.k0, iQ, iQ, iQ, iQ, trivial⟩, ?_⟩
       refine goW_fork [11, 13] kQ rfl ⟨?_, ?_, trivial⟩
       ·refine stepW_ef _ rfl rfl hF hS rfl (ef_append ty24 ty4 0 rfl rfl rfl (src_slV ty24 hxb zin0) bQ rfl (by decide)) ?_
        clear hF hS; rintro v_1_11 _ _ a w ⟨rfl, rfl⟩ hF hS
        refine ⟨⟨iQ, iQ, iQ, iQ, iQ, iQ, trivial⟩, ?_⟩
        refine goW_take 12 _ rfl kQ rfl hF (hS.keep sQ (zQ.k.k.k)) (q_buildS1 ty26 3 kQ rfl rfl (oc_cons (row_one (hS.own _ (List.mem_of_getElem? (i := 2) rfl)).1) (oc_cons (row_one (hS.own _ (List.mem_of_getElem? (i := 1) rfl)).1) (oc_cons (row_one (hS.own _ (List.mem_of_getElem? (i := 0) rfl)).1) oc_nil))) rfl rfl) ?_
        clear hF; intro a hF
        refine gQ 13 rfl rfl hF hS rfl (ef_allocA ty26) ?_
        clear hF hS; rintro _ _ _ a w ⟨b_1_13, rfl, rfl, rfl⟩ hF hS
        refine ⟨⟨.inr (hS.k1 (zQ.k.k.k.n)), iQ, iQ, iQ, iQ, iQ, iQ, trivial⟩, ?_⟩
        refine gQ 14 rfl rfl hF hS rfl (ef_storeW ty26 0 rfl rfl rfl rfl bQ (oc_cons (row_one (hS.own _ (List.mem_of_getElem? (i := 3) rfl)).1) (oc_cons (row_one (hS.own _ (List.mem_of_getElem? (i := 2) rfl)).1) (oc_cons (row_one (hS.own _ (List.mem_of_getElem? (i := 1) rfl)).1) oc_nil))) bQ) ?_
        clear hF hS; rintro _ _ _ a w ⟨rfl, rfl, rfl⟩ hF hS
        refine ⟨⟨iQ, iQ, iQ, iQ, iQ, iQ, iQ, trivial⟩, ?_⟩
        exact goW_done kQ (j7_mk v_1_0 v_1_3 v_1_4 v_1_7 v_1_8 v_1_11 b_1_13 (trivial) (hF.sub (L' := [(1, _), (2, _), (6, _), (7, _)]) ⟨rfl, rfl, rfl, rfl, trivial⟩) hS)
       ·refine stepW_ef _ rfl rfl hF hS rfl (ef_allocA ty26) ?_
        clear hF hS; rintro _ _ _ a w ⟨b_1_13, rfl, rfl, rfl⟩ hF hS
        refine ⟨⟨.inr (hS.k1 (sQ.n.n.n.n.n)), .inr hS.k0, iQ, iQ, iQ, iQ, trivial⟩, ?_⟩
        refine gQ 11 rfl rfl hF hS rfl (ef_append ty24 ty4 1 rfl rfl rfl (src_slV ty24 hxb zin0) bQ rfl (by decide)) ?_
        clear hF hS; rintro v_1_11 _ _ a w ⟨rfl, rfl⟩ hF hS
        refine ⟨⟨iQ, iQ, iQ, iQ, iQ, iQ, trivial⟩, ?_⟩
        refine goW_take 12 _ rfl kQ rfl hF (hS.keep sQ (zQ.k.k.k.n)) (q_buildS1 ty26 3 kQ rfl rfl (oc_cons (row_one (hS.own _ (List.mem_of_getElem? (i := 3) rfl)).1) (oc_cons (row_one (hS.own _ (List.mem_of_getElem? (i := 2) rfl)).1) (oc_cons (row_one (hS.own _ (List.mem_of_getElem? (i := 1) rfl)).1) oc_nil))) rfl rfl) ?_
        clear hF; intro a hF
        refine gQ 14 rfl rfl hF hS rfl (ef_storeW ty26 0 rfl rfl rfl rfl bQ (oc_cons (row_one (hS.own _ (List.mem_of_getElem? (i := 3) rfl)).1) (oc_cons (row_one (hS.own _ (List.mem_of_getElem? (i := 2) rfl)).1) (oc_cons (row_one (hS.own _ (List.mem_of_getElem? (i := 1) rfl)).1) oc_nil))) bQ) ?_
        clear hF hS; rintro _ _ _ a w ⟨rfl, rfl, rfl⟩ hF hS
        refine ⟨⟨iQ, iQ, iQ, iQ, iQ, iQ, iQ, trivial⟩, ?_⟩
        exact goW_done kQ (j7_mk v_1_0 v_1_3 v_1_4 v_1_7 v_1_8 v_1_11 b_1_13 (trivial) (hF.sub (L' := [(1, _), (2, _), (6, _), (7, _)]) ⟨rfl, rfl, rfl, rfl, trivial⟩) hS)
      ·refine stepW_ef _ rfl rfl hF hS rfl (ef_allocA ty26) ?_
       clear hF hS; rintro _ _ _ a w ⟨b_1_13, rfl, rfl, rfl⟩ hF hS
       refine ⟨⟨.inr (hS.k1 (sQ.n.n.n.n.n)), .inr hS.k0, .inr (hS.k1 (sQ.n.n.n.n.n)), .inr hS.k0, iQ, iQ, trivial⟩, ?_⟩
       refine gQ 7 rfl rfl hF hS rfl (ef_append ty22 ty3 2 rfl rfl rfl (src_slV ty22 hxs zin0) bQ rfl (by decide)) ?_
       clear hF hS; rintro v_1_7 _ _ a w ⟨rfl, rfl⟩ hF hS
       refine ⟨⟨.inr (hS.k1 (sQ.n.n.n.n.n)), .inr hS.k0, iQ, iQ, iQ, iQ, trivial⟩, ?_⟩
       refine gQ 11 rfl rfl hF hS rfl (ef_append ty24 ty4 1 rfl rfl rfl (src_slV ty24 hxb zin0) bQ rfl (by decide)) ?_
       clear hF hS; rintro v_1_11 _ _ a w ⟨rfl, rfl⟩ hF hS
       refine ⟨⟨iQ, iQ, iQ, iQ, iQ, iQ, trivial⟩, ?_⟩
       refine goW_take 12 _ rfl kQ rfl hF (hS.keep sQ (zQ.k.k.k.n)) (q_buildS1 ty26 3 kQ rfl rfl (oc_cons (row_one (hS.own _ (List.mem_of_getElem? (i := 3) rfl)).1) (oc_cons (row_one (hS.own _ (List.mem_of_getElem? (i := 2) rfl)).1) (oc_cons (row_one (hS.own _ (List.mem_of_getElem? (i := 1) rfl)).1) oc_nil))) rfl rfl) ?_
       clear hF; intro a hF
       refine gQ 14 rfl rfl hF hS rfl (ef_storeW ty26 0 rfl rfl rfl rfl bQ (oc_cons (row_one (hS.own _ (List.mem_of_getElem? (i := 3) rfl)).1) (oc_cons (row_one (hS.own _ (List.mem_of_getElem? (i := 2) rfl)).1) (oc_cons (row_one (hS.own _ (List.mem_of_getElem? (i := 1) rfl)).1) oc_nil))) bQ) ?_
       clear hF hS; rintro _ _ _ a w ⟨rfl, rfl, rfl⟩ hF hS
       refine ⟨⟨iQ, iQ, iQ, iQ, iQ, iQ, iQ, trivial⟩, ?_⟩
       exact goW_done kQ (j7_mk v_1_0 v_1_3 v_1_4 v_1_7 v_1_8 v_1_11 b_1_13 (trivial) (hF.sub (L' := [(1, _), (2, _), (6, _), (7, _)]) ⟨rfl, rfl, rfl, rfl, trivial⟩) hS)
     ·refine stepW_ef _ rfl rfl hF hS rfl (ef_allocA ty26) ?_
      clear hF hS; rintro _ _ _ a w ⟨b_1_13, rfl, rfl, rfl⟩ hF hS
      refine ⟨⟨.inr (hS.k1 (sQ.n.n.n.n)), .inr hS.k0, .inr (hS.k1 (sQ.n.n.n.n)), .inr hS.k0, iQ, iQ, trivial⟩, ?_⟩
      refine goW_fork [7, 8] kQ rfl ⟨?_, ?_, trivial⟩
      ·refine stepW_ef _ rfl rfl hF hS rfl (ef_append ty22 ty3 1 rfl rfl rfl (src_slV ty22 hxs zin0) bQ rfl (by decide)) ?_
       clear hF hS; rintro v_1_7 _ _ a w ⟨rfl, rfl⟩ hF hS
       refine ⟨⟨.inr (hS.k1 (sQ.n.n.n.n)), .inr hS.k0, iQ, iQ, iQ, iQ, trivial⟩, ?_⟩
       refine gQ 8 rfl rfl hF hS rfl (ef_bslice0 ty24 ty4) ?_
       clear hF hS; rintro v_1_8 _ _ a w ⟨rfl, rfl⟩ hF hS
       refine ⟨⟨.inr (hS.k1 (sQ.n.n.n.n.n)), .inr hS.k0, iQ, iQ, iQ, iQ, trivial⟩, ?_⟩
       refine gQ 11 rfl rfl hF hS rfl (ef_append ty24 ty4 0 rfl rfl rfl (src_slV ty24 hxb zin0) bQ rfl (by decide)) ?_
       clear hF hS; rintro v_1_11 _ _ a w ⟨rfl, rfl⟩ hF hS
       refine ⟨⟨iQ, iQ, iQ, iQ, iQ, iQ, trivial⟩, ?_⟩
       refine goW_take 12 _ rfl kQ rfl hF (hS.keep sQ (zQ.k.k.n.k)) (q_buildS1 ty26 3 kQ rfl rfl (oc_cons (row_one (hS.own _ (List.mem_of_getElem? (i := 3) rfl)).1) (oc_cons (row_one (hS.own _ (List.mem_of_getElem? (i := 2) rfl)).1) (oc_cons (row_one (hS.own _ (List.mem_of_getElem? (i := 0) rfl)).1) oc_nil))) rfl rfl) ?_
       clear hF; intro a hF
       refine gQ 14 rfl rfl hF hS rfl (ef_storeW ty26 1 rfl rfl rfl rfl bQ (oc_cons (row_one (hS.own _ (List.mem_of_getElem? (i := 3) rfl)).1) (oc_cons (row_one (hS.own _ (List.mem_of_getElem? (i := 2) rfl)).1) (oc_cons (row_one (hS.own _ (List.mem_of_getElem? (i := 0) rfl)).1) oc_nil))) bQ) ?_
       clear hF hS; rintro _ _ _ a w ⟨rfl, rfl, rfl⟩ hF hS
       refine ⟨⟨iQ, iQ, iQ, iQ, iQ, iQ, iQ, trivial⟩, ?_⟩
       exact goW_done kQ (j7_mk v_1_0 v_1_3 v_1_4 v_1_7 v_1_8 v_1_11 b_1_13 (trivial) (hF.sub (L' := [(1, _), (2, _), (6, _), (7, _)]) ⟨rfl, rfl, rfl, rfl, trivial⟩) (hS.perm (.swap _ _ _)))
      ·refine stepW_ef _ rfl rfl hF hS rfl (ef_bslice0 ty24 ty4) ?_
       clear hF hS; rintro v_1_8 _ _ a w ⟨rfl, rfl⟩ hF hS
       refine ⟨⟨.inr (hS.k1 (sQ.n.n.n.n.n)), .inr hS.k0, .inr (hS.k1 (sQ.n.n.n.n.n)), .inr hS.k0, iQ, iQ, trivial⟩, ?_⟩
       refine gQ 7 rfl rfl hF hS rfl (ef_append ty22 ty3 2 rfl rfl rfl (src_slV ty22 hxs zin0) bQ rfl (by decide)) ?_
       clear hF hS; rintro v_1_7 _ _ a w ⟨rfl, rfl⟩ hF hS
       refine ⟨⟨.inr (hS.k1 (sQ.n.n.n.n.n)), .inr hS.k0, iQ, iQ, iQ, iQ, trivial⟩, ?_⟩
       refine gQ 11 rfl rfl hF hS rfl (ef_append ty24 ty4 0 rfl rfl rfl (src_slV ty24 hxb zin0) bQ rfl (by decide)) ?_
       clear hF hS; rintro v_1_11 _ _ a w ⟨rfl, rfl⟩ hF hS
       refine ⟨⟨iQ, iQ, iQ, iQ, iQ, iQ, trivial⟩, ?_⟩
       refine goW_take 12 _ rfl kQ rfl hF (hS.keep sQ (zQ.k.k.n.k)) (q_buildS1 ty26 3 kQ rfl rfl (oc_cons (row_one (hS.own _ (List.mem_of_getElem? (i := 3) rfl)).1) (oc_cons (row_one (hS.own _ (List.mem_of_getElem? (i := 2) rfl)).1) (oc_cons (row_one (hS.own _ (List.mem_of_getElem? (i := 0) rfl)).1) oc_nil))) rfl rfl) ?_
       clear hF; intro a hF
       refine gQ 14 rfl rfl hF hS rfl (ef_storeW ty26 1 rfl rfl rfl rfl bQ (oc_cons (row_one (hS.own _ (List.mem_of_getElem? (i := 3) rfl)).1) (oc_cons (row_one (hS.own _ (List.mem_of_getElem? (i := 2) rfl)).1) (oc_cons (row_one (hS.own _ (List.mem_of_getElem? (i := 0) rfl)).1) oc_nil))) bQ) ?_
       clear hF hS; rintro _ _ _ a w ⟨rfl, rfl, rfl⟩ hF hS
       refine ⟨⟨iQ, iQ, iQ, iQ, iQ, iQ, iQ, trivial⟩, ?_⟩
       exact goW_done kQ (j7_mk v_1_0 v_1_3 v_1_4 v_1_7 v_1_8 v_1_11 b_1_13 (trivial) (hF.sub (L' := [(1, _), (2, _), (6, _), (7, _)]) ⟨rfl, rfl, rfl, rfl, trivial⟩) (hS.perm (.swap _ _ _)))
    ·refine stepW_ef _ rfl rfl hF hS rfl (ef_bslice0 ty24 ty4) ?_
     clear hF hS; rintro v_1_8 _ _ a w ⟨rfl, rfl⟩ hF hS
     refine ⟨⟨.inr (hS.k1 (sQ.n.n.n.n)), .inr hS.k0, .inr (hS.k1 (sQ.n.n.n.n)), .inr hS.k0, .inr (hS.k1 (sQ.n.n.n.n)), .inr hS.k0, trivial⟩, ?_⟩
     refine goW_fork [3, 13] kQ rfl ⟨?_, ?_, trivial⟩
     ·refine stepW_ef _ rfl rfl hF hS rfl (ef_append ty23 ty83 2 rfl rfl rfl (src_slC ty23 hxn zin0 (by decide)) bQ rfl (by decide)) ?_
      clear hF hS; rintro v_1_3 _ _ a w ⟨rfl, rfl⟩ hF hS
      refine ⟨⟨.inr (hS.k1 (sQ.n.n.n.n)), .inr hS.k0, .inr (hS.k1 (sQ.n.n.n.n)), .inr hS.k0, iQ, iQ, trivial⟩, ?_⟩
      refine goW_fork [7, 13] kQ rfl ⟨?_, ?_, trivial⟩
      ·refine stepW_ef _ rfl rfl hF hS rfl (ef_append ty22 ty3 1 rfl rfl rfl (src_slV ty22 hxs zin0) bQ rfl (by decide)) ?_
       clear hF hS; rintro v_1_7 _ _ a w ⟨rfl, rfl⟩ hF hS
       refine ⟨⟨.inr (hS.k1 (sQ.n.n.n.n)), .inr hS.k0, iQ, iQ, iQ, iQ, trivial⟩, ?_⟩
       refine goW_fork [11, 13] kQ rfl ⟨?_, ?_, trivial⟩
       ·refine stepW_ef _ rfl rfl hF hS rfl (ef_append ty24 ty4 0 rfl rfl rfl (src_slV ty24 hxb zin0) bQ rfl (by decide)) ?_
        clear hF hS; rintro v_1_11 _ _ a w ⟨rfl, rfl⟩ hF hS
        refine ⟨⟨iQ, iQ, iQ, iQ, iQ, iQ, trivial⟩, ?_⟩
        refine goW_take 12 _ rfl kQ rfl hF (hS.keep sQ (zQ.k.k.k)) (q_buildS1 ty26 3 kQ rfl rfl (oc_cons (row_one (hS.own _ (List.mem_of_getElem? (i := 2) rfl)).1) (oc_cons (row_one (hS.own _ (List.mem_of_getElem? (i := 1) rfl)).1) (oc_cons (row_one (hS.own _ (List.mem_of_getElem? (i := 0) rfl)).1) oc_nil))) rfl rfl) ?_
        clear hF; intro a hF
        refine gQ 13 rfl rfl hF hS rfl (ef_allocA ty26) ?_
        clear hF hS; rintro _ _ _ a w ⟨b_1_13, rfl, rfl, rfl⟩ hF hS
        refine ⟨⟨.inr (hS.k1 (zQ.k.k.k.n)), iQ, iQ, iQ, iQ, iQ, iQ, trivial⟩, ?_⟩
        refine gQ 14 rfl rfl hF hS rfl (ef_storeW ty26 0 rfl rfl rfl rfl bQ (oc_cons (row_one (hS.own _ (List.mem_of_getElem? (i := 3) rfl)).1) (oc_cons (row_one (hS.own _ (List.mem_of_getElem? (i := 2) rfl)).1) (oc_cons (row_one (hS.own _ (List.mem_of_getElem? (i := 1) rfl)).1) oc_nil))) bQ) ?_
        clear hF hS; rintro _ _ _ a w ⟨rfl, rfl, rfl⟩ hF hS
        refine ⟨⟨iQ, iQ, iQ, iQ, iQ, iQ, iQ, trivial⟩, ?_⟩
        exact goW_done kQ (j7_mk v_1_0 v_1_3 v_1_4 v_1_7 v_1_8 v_1_11 b_1_13 (trivial) (hF.sub (L' := [(1, _), (2, _), (6, _), (7, _)]) ⟨rfl, rfl, rfl, rfl, trivial⟩) hS)
       ·refine stepW_ef _ rfl rfl hF hS rfl (ef_allocA ty26) ?_
        clear hF hS; rintro _ _ _ a w ⟨b_1_13, rfl, rfl, rfl⟩ hF hS
        refine ⟨⟨.inr (hS.k1 (sQ.n.n.n.n.n)), .inr hS.k0, iQ, iQ, iQ, iQ, trivial⟩, ?_⟩
        refine gQ 11 rfl rfl hF hS rfl (ef_append ty24 ty4 1 rfl rfl rfl (src_slV ty24 hxb zin0) bQ rfl (by decide)) ?_
        clear hF hS; rintro v_1_11 _ _ a w ⟨rfl, rfl⟩ hF hS
        refine ⟨⟨iQ, iQ, iQ, iQ, iQ, iQ, trivial⟩, ?_⟩
        refine goW_take 12 _ rfl kQ rfl hF (hS.keep sQ (zQ.k.k.k.n)) (q_buildS1 ty26 3 kQ rfl rfl (oc_cons (row_one (hS.own _ (List.mem_of_getElem? (i := 3) rfl)).1) (oc_cons (row_one (hS.own _ (List.mem_of_getElem? (i := 2) rfl)).1) (oc_cons (row_one (hS.own _ (List.mem_of_getElem? (i := 1) rfl)).1) oc_nil))) rfl rfl) ?_
        clear hF; intro a hF
        refine gQ 14 rfl rfl hF hS rfl (ef_storeW ty26 0 rfl rfl rfl rfl bQ (oc_cons (row_one (hS.own _ (List.mem_of_getElem? (i := 3) rfl)).1) (oc_cons (row_one (hS.own _ (List.mem_of_getElem? (i := 2) rfl)).1) (oc_cons (row_one (hS.own _ (List.mem_of_getElem? (i := 1) rfl)).1) oc_nil))) bQ) ?_
        clear hF hS; rintro _ _ _ a w ⟨rfl, rfl, rfl⟩ hF hS
        refine ⟨⟨iQ, iQ, iQ, iQ, iQ, iQ, iQ, trivial⟩, ?_⟩
        exact goW_done kQ (j7_mk v_1_0 v_1_3 v_1_4 v_1_7 v_1_8 v_1_11 b_1_13 (trivial) (hF.sub (L' := [(1, _), (2, _), (6, _), (7, _)]) ⟨rfl, rfl, rfl, rfl, trivial⟩) hS)
      ·refine stepW_ef _ rfl rfl hF hS rfl (ef_allocA ty26) ?_
       clear hF hS; rintro _ _ _ a w ⟨b_1_13, rfl, rfl, rfl⟩ hF hS
       refine ⟨⟨.inr (hS.k1 (sQ.n.n.n.n.n)), .inr hS.k0, .inr (hS.k1 (sQ.n.n.n.n.n)), .inr hS.k0, iQ, iQ, trivial⟩, ?_⟩
       refine gQ 7 rfl rfl hF hS rfl (ef_append ty22 ty3 2 rfl rfl rfl (src_slV ty22 hxs zin0) bQ rfl (by decide)) ?_
       clear hF hS; rintro v_1_7 _ _ a w ⟨rfl, rfl⟩ hF hS
       refine ⟨⟨.inr (hS.k1 (sQ.n.n.n.n.n)), .inr hS.k0, iQ, iQ, iQ, iQ, trivial⟩, ?_⟩
       refine gQ 11 rfl rfl hF hS rfl (ef_append ty24 ty4 1 rfl rfl rfl (src_slV ty24 hxb zin0) bQ rfl (by decide)) ?_
       clear hF hS; rintro v_1_11 _ _ a w ⟨rfl, rfl⟩ hF hS
       refine ⟨⟨iQ, iQ, iQ, iQ, iQ, iQ, trivial⟩, ?_⟩
       refine goW_take 12 _ rfl kQ rfl hF (hS.keep sQ (zQ.k.k.k.n)) (q_buildS1 ty26 3 kQ rfl rfl (oc_cons (row_one (hS.own _ (List.mem_of_getElem? (i := 3) rfl)).1) (oc_cons (row_one (hS.own _ (List.mem_of_getElem? (i := 2) rfl)).1) (oc_cons (row_one (hS.own _ (List.mem_of_getElem? (i := 1) rfl)).1) oc_nil))) rfl rfl) ?_
       clear hF; intro a hF
       refine gQ 14 rfl rfl hF hS rfl (ef_storeW ty26 0 rfl rfl rfl rfl bQ (oc_cons (row_one (hS.own _ (List.mem_of_getElem? (i := 3) rfl)).1) (oc_cons (row_one (hS.own _ (List.mem_of_getElem? (i := 2) rfl)).1) (oc_cons (row_one (hS.own _ (List.mem_of_getElem? (i := 1) rfl)).1) oc_nil))) bQ) ?_
       clear hF hS; rintro _ _ _ a w ⟨rfl, rfl, rfl⟩ hF hS
       refine ⟨⟨iQ, iQ, iQ, iQ, iQ, iQ, iQ, trivial⟩, ?_⟩
       exact goW_done kQ (j7_mk v_1_0 v_1_3 v_1_4 v_1_7 v_1_8 v_1_11 b_1_13 (trivial) (hF.sub (L' := [(1, _), (2, _), (6, _), (7, _)]) ⟨rfl, rfl, rfl, rfl, trivial⟩) hS)
     ·refine stepW_ef _ rfl rfl hF hS rfl (ef_allocA ty26) ?_
      clear hF hS; rintro _ _ _ a w ⟨b_1_13, rfl, rfl, rfl⟩ hF hS
      refine ⟨⟨.inr (hS.k1 (sQ.n.n.n.n.n)), .inr hS.k0, .inr (hS.k1 (sQ.n.n.n.n.n)), .inr hS.k0, .inr (hS.k1 (sQ.n.n.n.n.n)), .inr hS.k0, trivial⟩, ?_⟩
      refine gQ 3 rfl rfl hF hS rfl (ef_append ty23 ty83 3 rfl rfl rfl (src_slC ty23 hxn zin0 (by decide)) bQ rfl (by decide)) ?_
      clear hF hS; rintro v_1_3 _ _ a w ⟨rfl, rfl⟩ hF hS
      refine ⟨⟨.inr (hS.k1 (sQ.n.n.n.n.n)), .inr hS.k0, .inr (hS.k1 (sQ.n.n.n.n.n)), .inr hS.k0, iQ, iQ, trivial⟩, ?_⟩
      refine gQ 7 rfl rfl hF hS rfl (ef_append ty22 ty3 2 rfl rfl rfl (src_slV ty22 hxs zin0) bQ rfl (by decide)) ?_
      clear hF hS; rintro v_1_7 _ _ a w ⟨rfl, rfl⟩ hF hS
      refine ⟨⟨.inr (hS.k1 (sQ.n.n.n.n.n)), .inr hS.k0, iQ, iQ, iQ, iQ, trivial⟩, ?_⟩
      refine gQ 11 rfl rfl hF hS rfl (ef_append ty24 ty4 1 rfl rfl rfl (src_slV ty24 hxb zin0) bQ rfl (by decide)) ?_
      clear hF hS; rintro v_1_11 _ _ a w ⟨rfl, rfl⟩ hF hS
      refine ⟨⟨iQ, iQ, iQ, iQ, iQ, iQ, trivial⟩, ?_⟩
      refine goW_take 12 _ rfl kQ rfl hF (hS.keep sQ (zQ.k.k.k.n)) (q_buildS1 ty26 3 kQ rfl rfl (oc_cons (row_one (hS.own _ (List.mem_of_getElem? (i := 3) rfl)).1) (oc_cons (row_one (hS.own _ (List.mem_of_getElem? (i := 2) rfl)).1) (oc_cons (row_one (hS.own _ (List.mem_of_getElem? (i := 1) rfl)).1) oc_nil))) rfl rfl) ?_
      clear hF; intro a hF
      refine gQ 14 rfl rfl hF hS rfl (ef_storeW ty26 0 rfl rfl rfl rfl bQ (oc_cons (row_one (hS.own _ (List.mem_of_getElem? (i := 3) rfl)).1) (oc_cons (row_one (hS.own _ (List.mem_of_getElem? (i := 2) rfl)).1) (oc_cons (row_one (hS.own _ (List.mem_of_getElem? (i := 1) rfl)).1) oc_nil))) bQ) ?_
      clear hF hS; rintro _ _ _ a w ⟨rfl, rfl, rfl⟩ hF hS
      refine ⟨⟨iQ, iQ, iQ, iQ, iQ, iQ, iQ, trivial⟩, ?_⟩
      exact goW_done kQ (j7_mk v_1_0 v_1_3 v_1_4 v_1_7 v_1_8 v_1_11 b_1_13 (trivial) (hF.sub (L' := [(1, _), (2, _), (6, _), (7, _)]) ⟨rfl, rfl, rfl, rfl, trivial⟩) hS)
    ·refine stepW_ef _ rfl rfl hF hS rfl (ef_allocA ty26) ?_
     clear hF hS; rintro _ _ _ a w ⟨b_1_13, rfl, rfl, rfl⟩ hF hS
     refine ⟨⟨.inr (hS.k1 (sQ.n.n.n.n)), .inr hS.k0, .inr (hS.k1 (sQ.n.n.n.n)), .inr hS.k0, .inr (hS.k1 (sQ.n.n.n.n)), .inr hS.k0, trivial⟩, ?_⟩
     refine goW_fork [3, 8] kQ rfl ⟨?_, ?_, trivial⟩
     ·refine stepW_ef _ rfl rfl hF hS rfl (ef_append ty23 ty83 2 rfl rfl rfl (src_slC ty23 hxn zin0 (by decide)) bQ rfl (by decide)) ?_
      clear hF hS; rintro v_1_3 _ _ a w ⟨rfl, rfl⟩ hF hS
      refine ⟨⟨.inr (hS.k1 (sQ.n.n.n.n)), .inr hS.k0, .inr (hS.k1 (sQ.n.n.n.n)), .inr hS.k0, iQ, iQ, trivial⟩, ?_⟩
      refine goW_fork [7, 8] kQ rfl ⟨?_, ?_, trivial⟩
      ·refine stepW_ef _ rfl rfl hF hS rfl (ef_append ty22 ty3 1 rfl rfl rfl (src_slV ty22 hxs zin0) bQ rfl (by decide)) ?_
       clear hF hS; rintro v_1_7 _ _ a w ⟨rfl, rfl⟩ hF hS
       refine ⟨⟨.inr (hS.k1 (sQ.n.n.n.n)), .inr hS.k0, iQ, iQ, iQ, iQ, trivial⟩, ?_⟩
       refine gQ 8 rfl rfl hF hS rfl (ef_bslice0 ty24 ty4) ?_
       clear hF hS; rintro v_1_8 _ _ a w ⟨rfl, rfl⟩ hF hS
       refine ⟨⟨.inr (hS.k1 (sQ.n.n.n.n.n)), .inr hS.k0, iQ, iQ, iQ, iQ, trivial⟩, ?_⟩
       refine gQ 11 rfl rfl hF hS rfl (ef_append ty24 ty4 0 rfl rfl rfl (src_slV ty24 hxb zin0) bQ rfl (by decide)) ?_
       clear hF hS; rintro v_1_11 _ _ a w ⟨rfl, rfl⟩ hF hS
       refine ⟨⟨iQ, iQ, iQ, iQ, iQ, iQ, trivial⟩, ?_⟩
       refine goW_take 12 _ rfl kQ rfl hF (hS.keep sQ (zQ.k.k.n.k)) (q_buildS1 ty26 3 kQ rfl rfl (oc_cons (row_one (hS.own _ (List.mem_of_getElem? (i := 3) rfl)).1) (oc_cons (row_one (hS.own _ (List.mem_of_getElem? (i := 2) rfl)).1) (oc_cons (row_one (hS.own _ (List.mem_of_getElem? (i := 0) rfl)).1) oc_nil))) rfl rfl) ?_
       clear hF; intro a hF
       refine gQ 14 rfl rfl hF hS rfl (ef_storeW ty26 1 rfl rfl rfl rfl bQ (oc_cons (row_one (hS.own _ (List.mem_of_getElem? (i := 3) rfl)).1) (oc_cons (row_one (hS.own _ (List.mem_of_getElem? (i := 2) rfl)).1) (oc_cons (row_one (hS.own _ (List.mem_of_getElem? (i := 0) rfl)).1) oc_nil))) bQ) ?_
       clear hF hS; rintro _ _ _ a w ⟨rfl, rfl, rfl⟩ hF hS
       refine ⟨⟨iQ, iQ, iQ, iQ, iQ, iQ, iQ, trivial⟩, ?_⟩
       exact goW_done kQ (j7_mk v_1_0 v_1_3 v_1_4 v_1_7 v_1_8 v_1_11 b_1_13 (trivial) (hF.sub (L' := [(1, _), (2, _), (6, _), (7, _)]) ⟨rfl, rfl, rfl, rfl, trivial⟩) (hS.perm (.swap _ _ _)))
      ·refine stepW_ef _ rfl rfl hF hS rfl (ef_bslice0 ty24 ty4) ?_
       clear hF hS; rintro v_1_8 _ _ a w ⟨rfl, rfl⟩ hF hS
       refine ⟨⟨.inr (hS.k1 (sQ.n.n.n.n.n)), .inr hS.k0, .inr (hS.k1 (sQ.n.n.n.n.n)), .inr hS.k0, iQ, iQ, trivial⟩, ?_⟩
       refine gQ 7 rfl rfl hF hS rfl (ef_append ty22 ty3 2 rfl rfl rfl (src_slV ty22 hxs zin0) bQ rfl (by decide)) ?_
       clear hF hS; rintro v_1_7 _ _ a w ⟨rfl, rfl⟩ hF hS
       refine ⟨⟨.inr (hS.k1 (sQ.n.n.n.n.n)), .inr hS.k0, iQ, iQ, iQ, iQ, trivial⟩, ?_⟩
       refine gQ 11 rfl rfl hF hS rfl (ef_append ty24 ty4 0 rfl rfl rfl (src_slV ty24 hxb zin0) bQ rfl (by decide)) ?_
       clear hF hS; rintro v_1_11 _ _ a w ⟨rfl, rfl⟩ hF hS
       refine ⟨⟨iQ, iQ, iQ, iQ, iQ, iQ, trivial⟩, ?_⟩
       refine goW_take 12 _ rfl kQ rfl hF (hS.keep sQ (zQ.k.k.n.k)) (q_buildS1 ty26 3 kQ rfl rfl (oc_cons (row_one (hS.own _ (List.mem_of_getElem? (i := 3) rfl)).1) (oc_cons (row_one (hS.own _ (List.mem_of_getElem? (i := 2) rfl)).1) (oc_cons (row_one (hS.own _ (List.mem_of_getElem? (i := 0) rfl)).1) oc_nil))) rfl rfl) ?_
       clear hF; intro a hF
       refine gQ 14 rfl rfl hF hS rfl (ef_storeW ty26 1 rfl rfl rfl rfl bQ (oc_cons (row_one (hS.own _ (List.mem_of_getElem? (i := 3) rfl)).1) (oc_cons (row_one (hS.own _ (List.mem_of_getElem? (i := 2) rfl)).1) (oc_cons (row_one (hS.own _ (List.mem_of_getElem? (i := 0) rfl)).1) oc_nil))) bQ) ?_
       clear hF hS; rintro _ _ _ a w ⟨rfl, rfl, rfl⟩ hF hS
       refine ⟨⟨iQ, iQ, iQ, iQ, iQ, iQ, iQ, trivial⟩, ?_⟩
       exact goW_done kQ (j7_mk v_1_0 v_1_3 v_1_4 v_1_7 v_1_8 v_1_11 b_1_13 (trivial) (hF.sub (L' := [(1, _), (2, _), (6, _), (7, _)]) ⟨rfl, rfl, rfl, rfl, trivial⟩) (hS.perm (.swap _ _ _)))
     ·refine stepW_ef _ rfl rfl hF hS rfl (ef_bslice0 ty24 ty4) ?_
      clear hF hS; rintro v_1_8 _ _ a w ⟨rfl, rfl⟩ hF hS
      refine ⟨⟨.inr (hS.k1 (sQ.n.n.n.n.n)), .inr hS.k0, .inr (hS.k1 (sQ.n.n.n.n.n)), .inr hS.k0, .inr (hS.k1 (sQ.n.n.n.n.n)), .inr hS.k0, trivial⟩, ?_⟩
      refine gQ 3 rfl rfl hF hS rfl (ef_append ty23 ty83 3 rfl rfl rfl (src_slC ty23 hxn zin0 (by decide)) bQ rfl (by decide)) ?_
      clear hF hS; rintro v_1_3 _ _ a w ⟨rfl, rfl⟩ hF hS
      refine ⟨⟨.inr (hS.k1 (sQ.n.n.n.n.n)), .inr hS.k0, .inr (hS.k1 (sQ.n.n.n.n.n)), .inr hS.k0, iQ, iQ, trivial⟩, ?_⟩
      refine gQ 7 rfl rfl hF hS rfl (ef_append ty22 ty3 2 rfl rfl rfl (src_slV ty22 hxs zin0) bQ rfl (by decide)) ?_
      clear hF hS; rintro v_1_7 _ _ a w ⟨rfl, rfl⟩ hF hS
      refine ⟨⟨.inr (hS.k1 (sQ.n.n.n.n.n)), .inr hS.k0, iQ, iQ, iQ, iQ, trivial⟩, ?_⟩
      refine gQ 11 rfl rfl hF hS rfl (ef_append ty24 ty4 0 rfl rfl rfl (src_slV ty24 hxb zin0) bQ rfl (by decide)) ?_
      clear hF hS; rintro v_1_11 _ _ a w ⟨rfl, rfl⟩ hF hS
      refine ⟨⟨iQ, iQ, iQ, iQ, iQ, iQ, trivial⟩, ?_⟩
      refine goW_take 12 _ rfl kQ rfl hF (hS.keep sQ (zQ.k.k.n.k)) (q_buildS1 ty26 3 kQ rfl rfl (oc_cons (row_one (hS.own _ (List.mem_of_getElem? (i := 3) rfl)).1) (oc_cons (row_one (hS.own _ (List.mem_of_getElem? (i := 2) rfl)).1) (oc_cons (row_one (hS.own _ (List.mem_of_getElem? (i := 0) rfl)).1) oc_nil))) rfl rfl) ?_
      clear hF; intro a hF
      refine gQ 14 rfl rfl hF hS rfl (ef_storeW ty26 1 rfl rfl rfl rfl bQ (oc_cons (row_one (hS.own _ (List.mem_of_getElem? (i := 3) rfl)).1) (oc_cons (row_one (hS.own _ (List.mem_of_getElem? (i := 2) rfl)).1) (oc_cons (row_one (hS.own _ (List.mem_of_getElem? (i := 0) rfl)).1) oc_nil))) bQ) ?_
      clear hF hS; rintro _ _ _ a w ⟨rfl, rfl, rfl⟩ hF hS
      refine ⟨⟨iQ, iQ, iQ, iQ, iQ, iQ, iQ, trivial⟩, ?_⟩
      exact goW_done kQ (j7_mk v_1_0 v_1_3 v_1_4 v_1_7 v_1_8 v_1_11 b_1_13 (trivial) (hF.sub (L' := [(1, _), (2, _), (6, _), (7, _)]) ⟨rfl, rfl, rfl, rfl, trivial⟩) (hS.perm (.swap _ _ _)))
   ·refine stepW_ef _ rfl rfl hF hS rfl (ef_bslice0 ty24 ty4) ?_
    clear hF hS; rintro v_1_8 _ _ a w ⟨rfl, rfl⟩ hF hS
    refine ⟨⟨.inr (hS.k1 (sQ.n.n.n)), .inr hS.k0, .inr (hS.k1 (sQ.n.n.n)), .inr hS.k0, .inr (hS.k1 (sQ.n.n.n)), .inr hS.k0, trivial⟩, ?_⟩
    refine goW_fork [3, 4, 13] kQ rfl ⟨?_, ?_, ?_, trivial⟩
    ·refine stepW_ef _ rfl rfl hF hS rfl (ef_append ty23 ty83 1 rfl rfl rfl (src_slC ty23 hxn zin0 (by decide)) bQ rfl (by decide)) ?_
     clear hF hS; rintro v_1_3 _ _ a w ⟨rfl, rfl⟩ hF hS
     refine ⟨⟨.inr (hS.k1 (sQ.n.n.n)), .inr hS.k0, .inr (hS.k1 (sQ.n.n.n)), .inr hS.k0, iQ, iQ, trivial⟩, ?_⟩
     refine goW_fork [4, 13] kQ rfl ⟨?_, ?_, trivial⟩
     ·refine stepW_ef _ rfl rfl hF hS rfl (ef_bslice0 ty22 ty3) ?_
      clear hF hS; rintro v_1_4 _ _ a w ⟨rfl, rfl⟩ hF hS
      refine ⟨⟨.inr (hS.k1 (sQ.n.n.n.n)), .inr hS.k0, .inr (hS.k1 (sQ.n.n.n.n)), .inr hS.k0, iQ, iQ, trivial⟩, ?_⟩
      refine goW_fork [7, 13] kQ rfl ⟨?_, ?_, trivial⟩
      ·refine stepW_ef _ rfl rfl hF hS rfl (ef_append ty22 ty3 0 rfl rfl rfl (src_slV ty22 hxs zin0) bQ rfl (by decide)) ?_
       clear hF hS; rintro v_1_7 _ _ a w ⟨rfl, rfl⟩ hF hS
       refine ⟨⟨.inr (hS.k1 (sQ.n.n.n.n)), .inr hS.k0, iQ, iQ, iQ, iQ, trivial⟩, ?_⟩
       refine goW_fork [11, 13] kQ rfl ⟨?_, ?_, trivial⟩
       ·refine stepW_ef _ rfl rfl hF hS rfl (ef_append ty24 ty4 1 rfl rfl rfl (src_slV ty24 hxb zin0) bQ rfl (by decide)) ?_
        clear hF hS; rintro v_1_11 _ _ a w ⟨rfl, rfl⟩ hF hS
        refine ⟨⟨iQ, iQ, iQ, iQ, iQ, iQ, trivial⟩, ?_⟩
        refine goW_take 12 _ rfl kQ rfl hF (hS.keep sQ (zQ.k.k.k)) (q_buildS1 ty26 3 kQ rfl rfl (oc_cons (row_one (hS.own _ (List.mem_of_getElem? (i := 2) rfl)).1) (oc_cons (row_one (hS.own _ (List.mem_of_getElem? (i := 0) rfl)).1) (oc_cons (row_one (hS.own _ (List.mem_of_getElem? (i := 1) rfl)).1) oc_nil))) rfl rfl) ?_
        clear hF; intro a hF
        refine gQ 13 rfl rfl hF hS rfl (ef_allocA ty26) ?_
        clear hF hS; rintro _ _ _ a w ⟨b_1_13, rfl, rfl, rfl⟩ hF hS
        refine ⟨⟨.inr (hS.k1 (zQ.k.k.k.n)), iQ, iQ, iQ, iQ, iQ, iQ, trivial⟩, ?_⟩
        refine gQ 14 rfl rfl hF hS rfl (ef_storeW ty26 0 rfl rfl rfl rfl bQ (oc_cons (row_one (hS.own _ (List.mem_of_getElem? (i := 3) rfl)).1) (oc_cons (row_one (hS.own _ (List.mem_of_getElem? (i := 1) rfl)).1) (oc_cons (row_one (hS.own _ (List.mem_of_getElem? (i := 2) rfl)).1) oc_nil))) bQ) ?_
        clear hF hS; rintro _ _ _ a w ⟨rfl, rfl, rfl⟩ hF hS
        refine ⟨⟨iQ, iQ, iQ, iQ, iQ, iQ, iQ, trivial⟩, ?_⟩
        exact goW_done kQ (j7_mk v_1_0 v_1_3 v_1_4 v_1_7 v_1_8 v_1_11 b_1_13 (trivial) (hF.sub (L' := [(1, _), (2, _), (6, _), (7, _)]) ⟨rfl, rfl, rfl, rfl, trivial⟩) (hS.perm (.cons _ (.swap _ _ _))))
       ·refine stepW_ef _ rfl rfl hF hS rfl (ef_allocA ty26) ?_
        clear hF hS; rintro _ _ _ a w ⟨b_1_13, rfl, rfl, rfl⟩ hF hS
        refine ⟨⟨.inr (hS.k1 (sQ.n.n.n.n.n)), .inr hS.k0, iQ, iQ, iQ, iQ, trivial⟩, ?_⟩
        refine gQ 11 rfl rfl hF hS rfl (ef_append ty24 ty4 2 rfl rfl rfl (src_slV ty24 hxb zin0) bQ rfl (by decide)) ?_
        clear hF hS; rintro v_1_11 _ _ a w ⟨rfl, rfl⟩ hF hS
        refine ⟨⟨iQ, iQ, iQ, iQ, iQ, iQ, trivial⟩, ?_⟩
        refine goW_take 12 _ rfl kQ rfl hF (hS.keep sQ (zQ.k.k.k.n)) (q_buildS1 ty26 3 kQ rfl rfl (oc_cons (row_one (hS.own _ (List.mem_of_getElem? (i := 3) rfl)).1) (oc_cons (row_one (hS.own _ (List.mem_of_getElem? (i := 1) rfl)).1) (oc_cons (row_one (hS.own _ (List.mem_of_getElem? (i := 2) rfl)).1) oc_nil))) rfl rfl) ?_
        clear hF; intro a hF
        refine gQ 14 rfl rfl hF hS rfl (ef_storeW ty26 0 rfl rfl rfl rfl bQ (oc_cons (row_one (hS.own _ (List.mem_of_getElem? (i := 3) rfl)).1) (oc_cons (row_one (hS.own _ (List.mem_of_getElem? (i := 1) rfl)).1) (oc_cons (row_one (hS.own _ (List.mem_of_getElem? (i := 2) rfl)).1) oc_nil))) bQ) ?_
        clear hF hS; rintro _ _ _ a w ⟨rfl, rfl, rfl⟩ hF hS
        refine ⟨⟨iQ, iQ, iQ, iQ, iQ, iQ, iQ, trivial⟩, ?_⟩
        exact goW_done kQ (j7_mk v_1_0 v_1_3 v_1_4 v_1_7 v_1_8 v_1_11 b_1_13 (trivial) (hF.sub (L' := [(1, _), (2, _), (6, _), (7, _)]) ⟨rfl, rfl, rfl, rfl, trivial⟩) (hS.perm (.cons _ (.swap _ _ _))))
      ·refine stepW_ef _ rfl rfl hF hS rfl (ef_allocA ty26) ?_
       clear hF hS; rintro _ _ _ a w ⟨b_1_13, rfl, rfl, rfl⟩ hF hS
       refine ⟨⟨.inr (hS.k1 (sQ.n.n.n.n.n)), .inr hS.k0, .inr (hS.k1 (sQ.n.n.n.n.n)), .inr hS.k0, iQ, iQ, trivial⟩, ?_⟩
       refine gQ 7 rfl rfl hF hS rfl (ef_append ty22 ty3 1 rfl rfl rfl (src_slV ty22 hxs zin0) bQ rfl (by decide)) ?_
       clear hF hS; rintro v_1_7 _ _ a w ⟨rfl, rfl⟩ hF hS
       refine ⟨⟨.inr (hS.k1 (sQ.n.n.n.n.n)), .inr hS.k0, iQ, iQ, iQ, iQ, trivial⟩, ?_⟩
       refine gQ 11 rfl rfl hF hS rfl (ef_append ty24 ty4 2 rfl rfl rfl (src_slV ty24 hxb zin0) bQ rfl (by decide)) ?_
       clear hF hS; rintro v_1_11 _ _ a w ⟨rfl, rfl⟩ hF hS
       refine ⟨⟨iQ, iQ, iQ, iQ, iQ, iQ, trivial⟩, ?_⟩
       refine goW_take 12 _ rfl kQ rfl hF (hS.keep sQ (zQ.k.k.k.n)) (q_buildS1 ty26 3 kQ rfl rfl (oc_cons (row_one (hS.own _ (List.mem_of_getElem? (i := 3) rfl)).1) (oc_cons (row_one (hS.own _ (List.mem_of_getElem? (i := 1) rfl)).1) (oc_cons (row_one (hS.own _ (List.mem_of_getElem? (i := 2) rfl)).1) oc_nil))) rfl rfl) ?_
       clear hF; intro a hF
       refine gQ 14 rfl rfl hF hS rfl (ef_storeW ty26 0 rfl rfl rfl rfl bQ (oc_cons (row_one (hS.own _ (List.mem_of_getElem? (i := 3) rfl)).1) (oc_cons (row_one (hS.own _ (List.mem_of_getElem? (i := 1) rfl)).1) (oc_cons (row_one (hS.own _ (List.mem_of_getElem? (i := 2) rfl)).1) oc_nil))) bQ) ?_
       clear hF hS; rintro _ _ _ a w ⟨rfl, rfl, rfl⟩ hF hS
       refine ⟨⟨iQ, iQ, iQ, iQ, iQ, iQ, iQ, trivial⟩, ?_⟩
       exact goW_done kQ (j7_mk v_1_0 v_1_3 v_1_4 v_1_7 v_1_8 v_1_11 b_1_13 (trivial) (hF.sub (L' := [(1, _), (2, _), (6, _), (7, _)]) ⟨rfl, rfl, rfl, rfl, trivial⟩) (hS.perm (.cons _ (.swap _ _ _))))
     ·refine stepW_ef _ rfl rfl hF hS rfl (ef_allocA ty26) ?_
      clear hF hS; rintro _ _ _ a w ⟨b_1_13, rfl, rfl, rfl⟩ hF hS
      refine ⟨⟨.inr (hS.k1 (sQ.n.n.n.n)), .inr hS.k0, .inr (hS.k1 (sQ.n.n.n.n)), .inr hS.k0, iQ, iQ, trivial⟩, ?_⟩
      refine gQ 4 rfl rfl hF hS rfl (ef_bslice0 ty22 ty3) ?_
      clear hF hS; rintro v_1_4 _ _ a w ⟨rfl, rfl⟩ hF hS
      refine ⟨⟨.inr (hS.k1 (sQ.n.n.n.n.n)), .inr hS.k0, .inr (hS.k1 (sQ.n.n.n.n.n)), .inr hS.k0, iQ, iQ, trivial⟩, ?_⟩
      refine gQ 7 rfl rfl hF hS rfl (ef_append ty22 ty3 0 rfl rfl rfl (src_slV ty22 hxs zin0) bQ rfl (by decide)) ?_
      clear hF hS; rintro v_1_7 _ _ a w ⟨rfl, rfl⟩ hF hS
      refine ⟨⟨.inr (hS.k1 (sQ.n.n.n.n.n)), .inr hS.k0, iQ, iQ, iQ, iQ, trivial⟩, ?_⟩
      refine gQ 11 rfl rfl hF hS rfl (ef_append ty24 ty4 2 rfl rfl rfl (src_slV ty24 hxb zin0) bQ rfl (by decide)) ?_
      clear hF hS; rintro v_1_11 _ _ a w ⟨rfl, rfl⟩ hF hS
      refine ⟨⟨iQ, iQ, iQ, iQ, iQ, iQ, trivial⟩, ?_⟩
      refine goW_take 12 _ rfl kQ rfl hF (hS.keep sQ (zQ.k.k.n.k)) (q_buildS1 ty26 3 kQ rfl rfl (oc_cons (row_one (hS.own _ (List.mem_of_getElem? (i := 3) rfl)).1) (oc_cons (row_one (hS.own _ (List.mem_of_getElem? (i := 0) rfl)).1) (oc_cons (row_one (hS.own _ (List.mem_of_getElem? (i := 2) rfl)).1) oc_nil))) rfl rfl) ?_
      clear hF; intro a hF
      refine gQ 14 rfl rfl hF hS rfl (ef_storeW ty26 1 rfl rfl rfl rfl bQ (oc_cons (row_one (hS.own _ (List.mem_of_getElem? (i := 3) rfl)).1) (oc_cons (row_one (hS.own _ (List.mem_of_getElem? (i := 0) rfl)).1) (oc_cons (row_one (hS.own _ (List.mem_of_getElem? (i := 2) rfl)).1) oc_nil))) bQ) ?_
      clear hF hS; rintro _ _ _ a w ⟨rfl, rfl, rfl⟩ hF hS
      refine ⟨⟨iQ, iQ, iQ, iQ, iQ, iQ, iQ, trivial⟩, ?_⟩
      exact goW_done kQ (j7_mk v_1_0 v_1_3 v_1_4 v_1_7 v_1_8 v_1_11 b_1_13 (trivial) (hF.sub (L' := [(1, _), (2, _), (6, _), (7, _)]) ⟨rfl, rfl, rfl, rfl, trivial⟩) ((hS.perm (.swap _ _ _)).perm (.cons _ (.swap _ _ _))))
    ·refine stepW_ef _ rfl rfl hF hS rfl (ef_bslice0 ty22 ty3) ?_
     clear hF hS; rintro v_1_4 _ _ a w ⟨rfl, rfl⟩ hF hS
     refine ⟨⟨.inr (hS.k1 (sQ.n.n.n.n)), .inr hS.k0, .inr (hS.k1 (sQ.n.n.n.n)), .inr hS.k0, .inr (hS.k1 (sQ.n.n.n.n)), .inr hS.k0, trivial⟩, ?_⟩
     refine goW_fork [3, 13] kQ rfl ⟨?_, ?_, trivial⟩
     ·refine stepW_ef _ rfl rfl hF hS rfl (ef_append ty23 ty83 2 rfl rfl rfl (src_slC ty23 hxn zin0 (by decide)) bQ rfl (by decide)) ?_
      clear hF hS; rintro v_1_3 _ _ a w ⟨rfl, rfl⟩ hF hS
      refine ⟨⟨.inr (hS.k1 (sQ.n.n.n.n)), .inr hS.k0, .inr (hS.k1 (sQ.n.n.n.n)), .inr hS.k0, iQ, iQ, trivial⟩, ?_⟩
      refine goW_fork [7, 13] kQ rfl ⟨?_, ?_, trivial⟩
      ·refine stepW_ef _ rfl rfl hF hS rfl (ef_append ty22 ty3 0 rfl rfl rfl (src_slV ty22 hxs zin0) bQ rfl (by decide)) ?_
       clear hF hS; rintro v_1_7 _ _ a w ⟨rfl, rfl⟩ hF hS
       refine ⟨⟨.inr (hS.k1 (sQ.n.n.n.n)), .inr hS.k0, iQ, iQ, iQ, iQ, trivial⟩, ?_⟩
       refine goW_fork [11, 13] kQ rfl ⟨?_, ?_, trivial⟩
       ·refine stepW_ef _ rfl rfl hF hS rfl (ef_append ty24 ty4 1 rfl rfl rfl (src_slV ty24 hxb zin0) bQ rfl (by decide)) ?_
        clear hF hS; rintro v_1_11 _ _ a w ⟨rfl, rfl⟩ hF hS
        refine ⟨⟨iQ, iQ, iQ, iQ, iQ, iQ, trivial⟩, ?_⟩
        refine goW_take 12 _ rfl kQ rfl hF (hS.keep sQ (zQ.k.k.k)) (q_buildS1 ty26 3 kQ rfl rfl (oc_cons (row_one (hS.own _ (List.mem_of_getElem? (i := 2) rfl)).1) (oc_cons (row_one (hS.own _ (List.mem_of_getElem? (i := 0) rfl)).1) (oc_cons (row_one (hS.own _ (List.mem_of_getElem? (i := 1) rfl)).1) oc_nil))) rfl rfl) ?_
        clear hF; intro a hF
        refine gQ 13 rfl rfl hF hS rfl (ef_allocA ty26) ?_
        clear hF hS; rintro _ _ _ a w ⟨b_1_13, rfl, rfl, rfl⟩ hF hS
        refine ⟨⟨.inr (hS.k1 (zQ.k.k.k.n)), iQ, iQ, iQ, iQ, iQ, iQ, trivial⟩, ?_⟩
        refine gQ 14 rfl rfl hF hS rfl (ef_storeW ty26 0 rfl rfl rfl rfl bQ (oc_cons (row_one (hS.own _ (List.mem_of_getElem? (i := 3) rfl)).1) (oc_cons (row_one (hS.own _ (List.mem_of_getElem? (i := 1) rfl)).1) (oc_cons (row_one (hS.own _ (List.mem_of_getElem? (i := 2) rfl)).1) oc_nil))) bQ) ?_
        clear hF hS; rintro _ _ _ a w ⟨rfl, rfl, rfl⟩ hF hS
        refine ⟨⟨iQ, iQ, iQ, iQ, iQ, iQ, iQ, trivial⟩, ?_⟩
        exact goW_done kQ (j7_mk v_1_0 v_1_3 v_1_4 v_1_7 v_1_8 v_1_11 b_1_13 (trivial) (hF.sub (L' := [(1, _), (2, _), (6, _), (7, _)]) ⟨rfl, rfl, rfl, rfl, trivial⟩) (hS.perm (.cons _ (.swap _ _ _))))
       ·refine stepW_ef _ rfl rfl hF hS rfl (ef_allocA ty26) ?_
        clear hF hS; rintro _ _ _ a w ⟨b_1_13, rfl, rfl, rfl⟩ hF hS
        refine ⟨⟨.inr (hS.k1 (sQ.n.n.n.n.n)), .inr hS.k0, iQ, iQ, iQ, iQ, trivial⟩, ?_⟩
        refine gQ 11 rfl rfl hF hS rfl (ef_append ty24 ty4 2 rfl rfl rfl (src_slV ty24 hxb zin0) bQ rfl (by decide)) ?_
        clear hF hS; rintro v_1_11 _ _ a w ⟨rfl, rfl⟩ hF hS
        refine ⟨⟨iQ, iQ, iQ, iQ, iQ, iQ, trivial⟩, ?_⟩
        refine goW_take 12 _ rfl kQ rfl hF (hS.keep sQ (zQ.k.k.k.n)) (q_buildS1 ty26 3 kQ rfl rfl (oc_cons (row_one (hS.own _ (List.mem_of_getElem? (i := 3) rfl)).1) (oc_cons (row_one (hS.own _ (List.mem_of_getElem? (i := 1) rfl)).1) (oc_cons (row_one (hS.own _ (List.mem_of_getElem? (i := 2) rfl)).1) oc_nil))) rfl rfl) ?_
        clear hF; intro a hF
        refine gQ 14 rfl rfl hF hS rfl (ef_storeW ty26 0 rfl rfl rfl rfl bQ (oc_cons (row_one (hS.own _ (List.mem_of_getElem? (i := 3) rfl)).1) (oc_cons (row_one (hS.own _ (List.mem_of_getElem? (i := 1) rfl)).1) (oc_cons (row_one (hS.own _ (List.mem_of_getElem? (i := 2) rfl)).1) oc_nil))) bQ) ?_
        clear hF hS; rintro _ _ _ a w ⟨rfl, rfl, rfl⟩ hF hS
        refine ⟨⟨iQ, iQ, iQ, iQ, iQ, iQ, iQ, trivial⟩, ?_⟩
        exact goW_done kQ (j7_mk v_1_0 v_1_3 v_1_4 v_1_7 v_1_8 v_1_11 b_1_13 (trivial) (hF.sub (L' := [(1, _), (2, _), (6, _), (7, _)]) ⟨rfl, rfl, rfl, rfl, trivial⟩) (hS.perm (.cons _ (.swap _ _ _))))
      ·refine stepW_ef _ rfl rfl hF hS rfl (ef_allocA ty26) ?_
       clear hF hS; rintro _ _ _ a w ⟨b_1_13, rfl, rfl, rfl⟩ hF hS
       refine ⟨⟨.inr (hS.k1 (sQ.n.n.n.n.n)), .inr hS.k0, .inr (hS.k1 (sQ.n.n.n.n.n)), .inr hS.k0, iQ, iQ, trivial⟩, ?_⟩
       refine gQ 7 rfl rfl hF hS rfl (ef_append ty22 ty3 1 rfl rfl rfl (src_slV ty22 hxs zin0) bQ rfl (by decide)) ?_
       clear hF hS; rintro v_1_7 _ _ a w ⟨rfl, rfl⟩ hF hS
       refine ⟨⟨.inr (hS.k1 (sQ.n.n.n.n.n)), .inr hS.k0, iQ, iQ, iQ, iQ, trivial⟩, ?_⟩
       refine gQ 11 rfl rfl hF hS rfl (ef_append ty24 ty4 2 rfl rfl rfl (src_slV ty24 hxb zin0) bQ rfl (by decide)) ?_
       clear hF hS; rintro v_1_11 _ _ a w ⟨rfl, rfl⟩ hF hS
       refine ⟨⟨iQ, iQ, iQ, iQ, iQ, iQ, trivial⟩, ?_⟩
       refine goW_take 12 _ rfl kQ rfl hF (hS.keep sQ (zQ.k.k.k.n)) (q_buildS1 ty26 3 kQ rfl rfl (oc_cons (row_one (hS.own _ (List.mem_of_getElem? (i := 3) rfl)).1) (oc_cons (row_one (hS.own _ (List.mem_of_getElem? (i := 1) rfl)).1) (oc_cons (row_one (hS.own _ (List.mem_of_getElem? (i := 2) rfl)).1) oc_nil))) rfl rfl) ?_
       clear hF; intro a hF
       refine gQ 14 rfl rfl hF hS rfl (ef_storeW ty26 0 rfl rfl rfl rfl bQ (oc_cons (row_one (hS.own _ (List.mem_of_getElem? (i := 3) rfl)).1) (oc_cons (row_one (hS.own _ (List.mem_of_getElem? (i := 1) rfl)).1) (oc_cons (row_one (hS.own _ (List.mem_of_getElem? (i := 2) rfl)).1) oc_nil))) bQ) ?_
       clear hF hS; rintro _ _ _ a w ⟨rfl, rfl, rfl⟩ hF hS
       refine ⟨⟨iQ, iQ, iQ, iQ, iQ, iQ, iQ, trivial⟩, ?_⟩
       exact goW_done kQ (j7_mk v_1_0 v_1_3 v_1_4 v_1_7 v_1_8 v_1_11 b_1_13 (trivial) (hF.sub (L' := [(1, _), (2, _), (6, _), (7, _)]) ⟨rfl, rfl, rfl, rfl, trivial⟩) (hS.perm (.cons _ (.swap _ _ _))))
     ·refine stepW_ef _ rfl rfl hF hS rfl (ef_allocA ty26) ?_
      clear hF hS; rintro _ _ _ a w ⟨b_1_13, rfl, rfl, rfl⟩ hF hS
      refine ⟨⟨.inr (hS.k1 (sQ.n.n.n.n.n)), .inr hS.k0, .inr (hS.k1 (sQ.n.n.n.n.n)), .inr hS.k0, .inr (hS.k1 (sQ.n.n.n.n.n)), .inr hS.k0, trivial⟩, ?_⟩
      refine gQ 3 rfl rfl hF hS rfl (ef_append ty23 ty83 3 rfl rfl rfl (src_slC ty23 hxn zin0 (by decide)) bQ rfl (by decide)) ?_
      clear hF hS; rintro v_1_3 _ _ a w ⟨rfl, rfl⟩ hF hS
      refine ⟨⟨.inr (hS.k1 (sQ.n.n.n.n.n)), .inr hS.k0, .inr (hS.k1 (sQ.n.n.n.n.n)), .inr hS.k0, iQ, iQ, trivial⟩, ?_⟩
      refine gQ 7 rfl rfl hF hS rfl (ef_append ty22 ty3 1 rfl rfl rfl (src_slV ty22 hxs zin0) bQ rfl (by decide)) ?_
      clear hF hS; rintro v_1_7 _ _ a w ⟨rfl, rfl⟩ hF hS
      refine ⟨⟨.inr (hS.k1 (sQ.n.n.n.n.n)), .inr hS.k0, iQ, iQ, iQ, iQ, trivial⟩, ?_⟩
      refine gQ 11 rfl rfl hF hS rfl (ef_append ty24 ty4 2 rfl rfl rfl (src_slV ty24 hxb zin0) bQ rfl (by decide)) ?_
      clear hF hS; rintro v_1_11 _ _ a w ⟨rfl, rfl⟩ hF hS
      refine ⟨⟨iQ, iQ, iQ, iQ, iQ, iQ, trivial⟩, ?_⟩
      refine goW_take 12 _ rfl kQ rfl hF (hS.keep sQ (zQ.k.k.k.n)) (q_buildS1 ty26 3 kQ rfl rfl (oc_cons (row_one (hS.own _ (List.mem_of_getElem? (i := 3) rfl)).1) (oc_cons (row_one (hS.own _ (List.mem_of_getElem? (i := 1) rfl)).1) (oc_cons (row_one (hS.own _ (List.mem_of_getElem? (i := 2) rfl)).1) oc_nil))) rfl rfl) ?_
      clear hF; intro a hF
      refine gQ 14 rfl rfl hF hS rfl (ef_storeW ty26 0 rfl rfl rfl rfl bQ (oc_cons (row_one (hS.own _ (List.mem_of_getElem? (i := 3) rfl)).1) (oc_cons (row_one (hS.own _ (List.mem_of_getElem? (i := 1) rfl)).1) (oc_cons (row_one (hS.own _ (List.mem_of_getElem? (i := 2) rfl)).1) oc_nil))) bQ) ?_
      clear hF hS; rintro _ _ _ a w ⟨rfl, rfl, rfl⟩ hF hS
      refine ⟨⟨iQ, iQ, iQ, iQ, iQ, iQ, iQ, trivial⟩, ?_⟩
      exact goW_done kQ (j7_mk v_1_0 v_1_3 v_1_4 v_1_7 v_1_8 v_1_11 b_1_13 (trivial) (hF.sub (L' := [(1, _), (2, _), (6, _), (7, _)]) ⟨rfl, rfl, rfl, rfl, trivial⟩) (hS.perm (.cons _ (.swap _ _ _))))
    ·refine stepW_ef _ rfl rfl hF hS rfl (ef_allocA ty26) ?_
     clear hF hS; rintro _ _ _ a w ⟨b_1_13, rfl, rfl, rfl⟩ hF hS
     refine ⟨⟨.inr (hS.k1 (sQ.n.n.n.n)), .inr hS.k0, .inr (hS.k1 (sQ.n.n.n.n)), .inr hS.k0, .inr (hS.k1 (sQ.n.n.n.n)), .inr hS.k0, trivial⟩, ?_⟩
     refine goW_fork [3, 4] kQ rfl ⟨?_, ?_, trivial⟩
     ·refine stepW_ef _ rfl rfl hF hS rfl (ef_append ty23 ty83 2 rfl rfl rfl (src_slC ty23 hxn zin0 (by decide)) bQ rfl (by decide)) ?_
      clear hF hS; rintro v_1_3 _ _ a w ⟨rfl, rfl⟩ hF hS
      refine ⟨⟨.inr (hS.k1 (sQ.n.n.n.n)), .inr hS.k0, .inr (hS.k1 (sQ.n.n.n.n)), .inr hS.k0, iQ, iQ, trivial⟩, ?_⟩
      refine gQ 4 rfl rfl hF hS rfl (ef_bslice0 ty22 ty3) ?_
      clear hF hS; rintro v_1_4 _ _ a w ⟨rfl, rfl⟩ hF hS
      refine ⟨⟨.inr (hS.k1 (sQ.n.n.n.n.n)), .inr hS.k0, .inr (hS.k1 (sQ.n.n.n.n.n)), .inr hS.k0, iQ, iQ, trivial⟩, ?_⟩
      refine gQ 7 rfl rfl hF hS rfl (ef_append ty22 ty3 0 rfl rfl rfl (src_slV ty22 hxs zin0) bQ rfl (by decide)) ?_
      clear hF hS; rintro v_1_7 _ _ a w ⟨rfl, rfl⟩ hF hS
      refine ⟨⟨.inr (hS.k1 (sQ.n.n.n.n.n)), .inr hS.k0, iQ, iQ, iQ, iQ, trivial⟩, ?_⟩
      refine gQ 11 rfl rfl hF hS rfl (ef_append ty24 ty4 2 rfl rfl rfl (src_slV ty24 hxb zin0) bQ rfl (by decide)) ?_
      clear hF hS; rintro v_1_11 _ _ a w ⟨rfl, rfl⟩ hF hS
      refine ⟨⟨iQ, iQ, iQ, iQ, iQ, iQ, trivial⟩, ?_⟩
      refine goW_take 12 _ rfl kQ rfl hF (hS.keep sQ (zQ.k.k.n.k)) (q_buildS1 ty26 3 kQ rfl rfl (oc_cons (row_one (hS.own _ (List.mem_of_getElem? (i := 3) rfl)).1) (oc_cons (row_one (hS.own _ (List.mem_of_getElem? (i := 0) rfl)).1) (oc_cons (row_one (hS.own _ (List.mem_of_getElem? (i := 2) rfl)).1) oc_nil))) rfl rfl) ?_
      clear hF; intro a hF
      refine gQ 14 rfl rfl hF hS rfl (ef_storeW ty26 1 rfl rfl rfl rfl bQ (oc_cons (row_one (hS.own _ (List.mem_of_getElem? (i := 3) rfl)).1) (oc_cons (row_one (hS.own _ (List.mem_of_getElem? (i := 0) rfl)).1) (oc_cons (row_one (hS.own _ (List.mem_of_getElem? (i := 2) rfl)).1) oc_nil))) bQ) ?_
      clear hF hS; rintro _ _ _ a w ⟨rfl, rfl, rfl⟩ hF hS
      refine ⟨⟨iQ, iQ, iQ, iQ, iQ, iQ, iQ, trivial⟩, ?_⟩
      exact goW_done kQ (j7_mk v_1_0 v_1_3 v_1_4 v_1_7 v_1_8 v_1_11 b_1_13 (trivial) (hF.sub (L' := [(1, _), (2, _), (6, _), (7, _)]) ⟨rfl, rfl, rfl, rfl, trivial⟩) ((hS.perm (.swap _ _ _)).perm (.cons _ (.swap _ _ _))))
     ·refine stepW_ef _ rfl rfl hF hS rfl (ef_bslice0 ty22 ty3) ?_
      clear hF hS; rintro v_1_4 _ _ a w ⟨rfl, rfl⟩ hF hS
      refine ⟨⟨.inr (hS.k1 (sQ.n.n.n.n.n)), .inr hS.k0, .inr (hS.k1 (sQ.n.n.n.n.n)), .inr hS.k0, .inr (hS.k1 (sQ.n.n.n.n.n)), .inr hS.k0, trivial⟩, ?_⟩
      refine gQ 3 rfl rfl hF hS rfl (ef_append ty23 ty83 3 rfl rfl rfl (src_slC ty23 hxn zin0 (by decide)) bQ rfl (by decide)) ?_
      clear hF hS; rintro v_1_3 _ _ a w ⟨rfl, rfl⟩ hF hS
      refine ⟨⟨.inr (hS.k1 (sQ.n.n.n.n.n)), .inr hS.k0, .inr (hS.k1 (sQ.n.n.n.n.n)), .inr hS.k0, iQ, iQ, trivial⟩, ?_⟩
      refine gQ 7 rfl rfl hF hS rfl (ef_append ty22 ty3 0 rfl rfl rfl (src_slV ty22 hxs zin0) bQ rfl (by decide)) ?_
      clear hF hS; rintro v_1_7 _ _ a w ⟨rfl, rfl⟩ hF hS
      refine ⟨⟨.inr (hS.k1 (sQ.n.n.n.n.n)), .inr hS.k0, iQ, iQ, iQ, iQ, trivial⟩, ?_⟩
      refine gQ 11 rfl rfl hF hS rfl (ef_append ty24 ty4 2 rfl rfl rfl (src_slV ty24 hxb zin0) bQ rfl (by decide)) ?_
      clear hF hS; rintro v_1_11 _ _ a w ⟨rfl, rfl⟩ hF hS
      refine ⟨⟨iQ, iQ, iQ, iQ, iQ, iQ, trivial⟩, ?_⟩
      refine goW_take 12 _ rfl kQ rfl hF (hS.keep sQ (zQ.k.k.n.k)) (q_buildS1 ty26 3 kQ rfl rfl (oc_cons (row_one (hS.own _ (List.mem_of_getElem? (i := 3) rfl)).1) (oc_cons (row_one (hS.own _ (List.mem_of_getElem? (i := 0) rfl)).1) (oc_cons (row_one (hS.own _ (List.mem_of_getElem? (i := 2) rfl)).1) oc_nil))) rfl rfl) ?_
      clear hF; intro a hF
      refine gQ 14 rfl rfl hF hS rfl (ef_storeW ty26 1 rfl rfl rfl rfl bQ (oc_cons (row_one (hS.own _ (List.mem_of_getElem? (i := 3) rfl)).1) (oc_cons (row_one (hS.own _ (List.mem_of_getElem? (i := 0) rfl)).1) (oc_cons (row_one (hS.own _ (List.mem_of_getElem? (i := 2) rfl)).1) oc_nil))) bQ) ?_
      clear hF hS; rintro _ _ _ a w ⟨rfl, rfl, rfl⟩ hF hS
      refine ⟨⟨iQ, iQ, iQ, iQ, iQ, iQ, iQ, trivial⟩, ?_⟩
      exact goW_done kQ (j7_mk v_1_0 v_1_3 v_1_4 v_1_7 v_1_8 v_1_11 b_1_13 (trivial) (hF.sub (L' := [(1, _), (2, _), (6, _), (7, _)]) ⟨rfl, rfl, rfl, rfl, trivial⟩) ((hS.perm (.swap _ _ _)).perm (.cons _ (.swap _ _ _))))
   ·refine stepW_ef _ rfl rfl hF hS rfl (ef_allocA ty26) ?_
    clear hF hS; rintro _ _ _ a w ⟨b_1_13, rfl, rfl, rfl⟩ hF hS
    refine ⟨⟨.inr (hS.k1 (sQ.n.n.n)), .inr hS.k0, .inr (hS.k1 (sQ.n.n.n)), .inr hS.k0, .inr (hS.k1 (sQ.n.n.n)), .inr hS.k0, trivial⟩, ?_⟩
    refine goW_fork [3, 4, 8] kQ rfl ⟨?_, ?_, ?_, trivial⟩
    ·refine stepW_ef _ rfl rfl hF hS rfl (ef_append ty23 ty83 1 rfl rfl rfl (src_slC ty23 hxn zin0 (by decide)) bQ rfl (by decide)) ?_
     clear hF hS; rintro v_1_3 _ _ a w ⟨rfl, rfl⟩ hF hS
     refine ⟨⟨.inr (hS.k1 (sQ.n.n.n)), .inr hS.k0, .inr (hS.k1 (sQ.n.n.n)), .inr hS.k0, iQ, iQ, trivial⟩, ?_⟩
     refine goW_fork [4, 8] kQ rfl ⟨?_, ?_, trivial⟩
     ·refine stepW_ef _ rfl rfl hF hS rfl (ef_bslice0 ty22 ty3) ?_
      clear hF hS; rintro v_1_4 _ _ a w ⟨rfl, rfl⟩ hF hS
      refine ⟨⟨.inr (hS.k1 (sQ.n.n.n.n)), .inr hS.k0, .inr (hS.k1 (sQ.n.n.n.n)), .inr hS.k0, iQ, iQ, trivial⟩, ?_⟩
      refine goW_fork [7, 8] kQ rfl ⟨?_, ?_, trivial⟩
      ·refine stepW_ef _ rfl rfl hF hS rfl (ef_append ty22 ty3 0 rfl rfl rfl (src_slV ty22 hxs zin0) bQ rfl (by decide)) ?_
       clear hF hS; rintro v_1_7 _ _ a w ⟨rfl, rfl⟩ hF hS
       refine ⟨⟨.inr (hS.k1 (sQ.n.n.n.n)), .inr hS.k0, iQ, iQ, iQ, iQ, trivial⟩, ?_⟩
       refine gQ 8 rfl rfl hF hS rfl (ef_bslice0 ty24 ty4) ?_
       clear hF hS; rintro v_1_8 _ _ a w ⟨rfl, rfl⟩ hF hS
       refine ⟨⟨.inr (hS.k1 (sQ.n.n.n.n.n)), .inr hS.k0, iQ, iQ, iQ, iQ, trivial⟩, ?_⟩
       refine gQ 11 rfl rfl hF hS rfl (ef_append ty24 ty4 0 rfl rfl rfl (src_slV ty24 hxb zin0) bQ rfl (by decide)) ?_
       clear hF hS; rintro v_1_11 _ _ a w ⟨rfl, rfl⟩ hF hS
       refine ⟨⟨iQ, iQ, iQ, iQ, iQ, iQ, trivial⟩, ?_⟩
       refine goW_take 12 _ rfl kQ rfl hF (hS.keep sQ (zQ.k.n.k.k)) (q_buildS1 ty26 3 kQ rfl rfl (oc_cons (row_one (hS.own _ (List.mem_of_getElem? (i := 3) rfl)).1) (oc_cons (row_one (hS.own _ (List.mem_of_getElem? (i := 1) rfl)).1) (oc_cons (row_one (hS.own _ (List.mem_of_getElem? (i := 0) rfl)).1) oc_nil))) rfl rfl) ?_
       clear hF; intro a hF
       refine gQ 14 rfl rfl hF hS rfl (ef_storeW ty26 2 rfl rfl rfl rfl bQ (oc_cons (row_one (hS.own _ (List.mem_of_getElem? (i := 3) rfl)).1) (oc_cons (row_one (hS.own _ (List.mem_of_getElem? (i := 1) rfl)).1) (oc_cons (row_one (hS.own _ (List.mem_of_getElem? (i := 0) rfl)).1) oc_nil))) bQ) ?_
       clear hF hS; rintro _ _ _ a w ⟨rfl, rfl, rfl⟩ hF hS
       refine ⟨⟨iQ, iQ, iQ, iQ, iQ, iQ, iQ, trivial⟩, ?_⟩
       exact goW_done kQ (j7_mk v_1_0 v_1_3 v_1_4 v_1_7 v_1_8 v_1_11 b_1_13 (trivial) (hF.sub (L' := [(1, _), (2, _), (6, _), (7, _)]) ⟨rfl, rfl, rfl, rfl, trivial⟩) ((hS.perm (.cons _ (.swap _ _ _))).perm (.swap _ _ _)))
      ·refine stepW_ef _ rfl rfl hF hS rfl (ef_bslice0 ty24 ty4) ?_
       clear hF hS; rintro v_1_8 _ _ a w ⟨rfl, rfl⟩ hF hS
       refine ⟨⟨.inr (hS.k1 (sQ.n.n.n.n.n)), .inr hS.k0, .inr (hS.k1 (sQ.n.n.n.n.n)), .inr hS.k0, iQ, iQ, trivial⟩, ?_⟩
       refine gQ 7 rfl rfl hF hS rfl (ef_append ty22 ty3 1 rfl rfl rfl (src_slV ty22 hxs zin0) bQ rfl (by decide)) ?_
       clear hF hS; rintro v_1_7 _ _ a w ⟨rfl, rfl⟩ hF hS
       refine ⟨⟨.inr (hS.k1 (sQ.n.n.n.n.n)), .inr hS.k0, iQ, iQ, iQ, iQ, trivial⟩, ?_⟩
       refine gQ 11 rfl rfl hF hS rfl (ef_append ty24 ty4 0 rfl rfl rfl (src_slV ty24 hxb zin0) bQ rfl (by decide)) ?_
       clear hF hS; rintro v_1_11 _ _ a w ⟨rfl, rfl⟩ hF hS
       refine ⟨⟨iQ, iQ, iQ, iQ, iQ, iQ, trivial⟩, ?_⟩
       refine goW_take 12 _ rfl kQ rfl hF (hS.keep sQ (zQ.k.n.k.k)) (q_buildS1 ty26 3 kQ rfl rfl (oc_cons (row_one (hS.own _ (List.mem_of_getElem? (i := 3) rfl)).1) (oc_cons (row_one (hS.own _ (List.mem_of_getElem? (i := 1) rfl)).1) (oc_cons (row_one (hS.own _ (List.mem_of_getElem? (i := 0) rfl)).1) oc_nil))) rfl rfl) ?_
       clear hF; intro a hF
       refine gQ 14 rfl rfl hF hS rfl (ef_storeW ty26 2 rfl rfl rfl rfl bQ (oc_cons (row_one (hS.own _ (List.mem_of_getElem? (i := 3) rfl)).1) (oc_cons (row_one (hS.own _ (List.mem_of_getElem? (i := 1) rfl)).1) (oc_cons (row_one (hS.own _ (List.mem_of_getElem? (i := 0) rfl)).1) oc_nil))) bQ) ?_
       clear hF hS; rintro _ _ _ a w ⟨rfl, rfl, rfl⟩ hF hS
       refine ⟨⟨iQ, iQ, iQ, iQ, iQ, iQ, iQ, trivial⟩, ?_⟩
       exact goW_done kQ (j7_mk v_1_0 v_1_3 v_1_4 v_1_7 v_1_8 v_1_11 b_1_13 (trivial) (hF.sub (L' := [(1, _), (2, _), (6, _), (7, _)]) ⟨rfl, rfl, rfl, rfl, trivial⟩) ((hS.perm (.cons _ (.swap _ _ _))).perm (.swap _ _ _)))
     ·refine stepW_ef _ rfl rfl hF hS rfl (ef_bslice0 ty24 ty4) ?_
      clear hF hS; rintro v_1_8 _ _ a w ⟨rfl, rfl⟩ hF hS
      refine ⟨⟨.inr (hS.k1 (sQ.n.n.n.n)), .inr hS.k0, .inr (hS.k1 (sQ.n.n.n.n)), .inr hS.k0, iQ, iQ, trivial⟩, ?_⟩
      refine gQ 4 rfl rfl hF hS rfl (ef_bslice0 ty22 ty3) ?_
      clear hF hS; rintro v_1_4 _ _ a w ⟨rfl, rfl⟩ hF hS
      refine ⟨⟨.inr (hS.k1 (sQ.n.n.n.n.n)), .inr hS.k0, .inr (hS.k1 (sQ.n.n.n.n.n)), .inr hS.k0, iQ, iQ, trivial⟩, ?_⟩
      refine gQ 7 rfl rfl hF hS rfl (ef_append ty22 ty3 0 rfl rfl rfl (src_slV ty22 hxs zin0) bQ rfl (by decide)) ?_
      clear hF hS; rintro v_1_7 _ _ a w ⟨rfl, rfl⟩ hF hS
      refine ⟨⟨.inr (hS.k1 (sQ.n.n.n.n.n)), .inr hS.k0, iQ, iQ, iQ, iQ, trivial⟩, ?_⟩
      refine gQ 11 rfl rfl hF hS rfl (ef_append ty24 ty4 1 rfl rfl rfl (src_slV ty24 hxb zin0) bQ rfl (by decide)) ?_
      clear hF hS; rintro v_1_11 _ _ a w ⟨rfl, rfl⟩ hF hS
      refine ⟨⟨iQ, iQ, iQ, iQ, iQ, iQ, trivial⟩, ?_⟩
      refine goW_take 12 _ rfl kQ rfl hF (hS.keep sQ (zQ.k.n.k.k)) (q_buildS1 ty26 3 kQ rfl rfl (oc_cons (row_one (hS.own _ (List.mem_of_getElem? (i := 3) rfl)).1) (oc_cons (row_one (hS.own _ (List.mem_of_getElem? (i := 0) rfl)).1) (oc_cons (row_one (hS.own _ (List.mem_of_getElem? (i := 1) rfl)).1) oc_nil))) rfl rfl) ?_
      clear hF; intro a hF
      refine gQ 14 rfl rfl hF hS rfl (ef_storeW ty26 2 rfl rfl rfl rfl bQ (oc_cons (row_one (hS.own _ (List.mem_of_getElem? (i := 3) rfl)).1) (oc_cons (row_one (hS.own _ (List.mem_of_getElem? (i := 0) rfl)).1) (oc_cons (row_one (hS.own _ (List.mem_of_getElem? (i := 1) rfl)).1) oc_nil))) bQ) ?_
      clear hF hS; rintro _ _ _ a w ⟨rfl, rfl, rfl⟩ hF hS
      refine ⟨⟨iQ, iQ, iQ, iQ, iQ, iQ, iQ, trivial⟩, ?_⟩
      exact goW_done kQ (j7_mk v_1_0 v_1_3 v_1_4 v_1_7 v_1_8 v_1_11 b_1_13 (trivial) (hF.sub (L' := [(1, _), (2, _), (6, _), (7, _)]) ⟨rfl, rfl, rfl, rfl, trivial⟩) (((hS.perm (.cons _ (.swap _ _ _))).perm (.swap _ _ _)).perm (.cons _ (.swap _ _ _))))
    ·refine stepW_ef _ rfl rfl hF hS rfl (ef_bslice0 ty22 ty3) ?_
     clear hF hS; rintro v_1_4 _ _ a w ⟨rfl, rfl⟩ hF hS
     refine ⟨⟨.inr (hS.k1 (sQ.n.n.n.n)), .inr hS.k0, .inr (hS.k1 (sQ.n.n.n.n)), .inr hS.k0, .inr (hS.k1 (sQ.n.n.n.n)), .inr hS.k0, trivial⟩, ?_⟩
     refine goW_fork [3, 8] kQ rfl ⟨?_, ?_, trivial⟩
     ·refine stepW_ef _ rfl rfl hF hS rfl (ef_append ty23 ty83 2 rfl rfl rfl (src_slC ty23 hxn zin0 (by decide)) bQ rfl (by decide)) ?_
      clear hF hS; rintro v_1_3 _ _ a w ⟨rfl, rfl⟩ hF hS
      refine ⟨⟨.inr (hS.k1 (sQ.n.n.n.n)), .inr hS.k0, .inr (hS.k1 (sQ.n.n.n.n)), .inr hS.k0, iQ, iQ, trivial⟩, ?_⟩
      refine goW_fork [7, 8] kQ rfl ⟨?_, ?_, trivial⟩
      ·refine stepW_ef _ rfl rfl hF hS rfl (ef_append ty22 ty3 0 rfl rfl rfl (src_slV ty22 hxs zin0) bQ rfl (by decide)) ?_
       clear hF hS; rintro v_1_7 _ _ a w ⟨rfl, rfl⟩ hF hS
       refine ⟨⟨.inr (hS.k1 (sQ.n.n.n.n)), .inr hS.k0, iQ, iQ, iQ, iQ, trivial⟩, ?_⟩
       refine gQ 8 rfl rfl hF hS rfl (ef_bslice0 ty24 ty4) ?_
       clear hF hS; rintro v_1_8 _ _ a w ⟨rfl, rfl⟩ hF hS
       refine ⟨⟨.inr (hS.k1 (sQ.n.n.n.n.n)), .inr hS.k0, iQ, iQ, iQ, iQ, trivial⟩, ?_⟩
       refine gQ 11 rfl rfl hF hS rfl (ef_append ty24 ty4 0 rfl rfl rfl (src_slV ty24 hxb zin0) bQ rfl (by decide)) ?_
       clear hF hS; rintro v_1_11 _ _ a w ⟨rfl, rfl⟩ hF hS
       refine ⟨⟨iQ, iQ, iQ, iQ, iQ, iQ, trivial⟩, ?_⟩
       refine goW_take 12 _ rfl kQ rfl hF (hS.keep sQ (zQ.k.n.k.k)) (q_buildS1 ty26 3 kQ rfl rfl (oc_cons (row_one (hS.own _ (List.mem_of_getElem? (i := 3) rfl)).1) (oc_cons (row_one (hS.own _ (List.mem_of_getElem? (i := 1) rfl)).1) (oc_cons (row_one (hS.own _ (List.mem_of_getElem? (i := 0) rfl)).1) oc_nil))) rfl rfl) ?_
       clear hF; intro a hF
       refine gQ 14 rfl rfl hF hS rfl (ef_storeW ty26 2 rfl rfl rfl rfl bQ (oc_cons (row_one (hS.own _ (List.mem_of_getElem? (i := 3) rfl)).1) (oc_cons (row_one (hS.own _ (List.mem_of_getElem? (i := 1) rfl)).1) (oc_cons (row_one (hS.own _ (List.mem_of_getElem? (i := 0) rfl)).1) oc_nil))) bQ) ?_
       clear hF hS; rintro _ _ _ a w ⟨rfl, rfl, rfl⟩ hF hS
       refine ⟨⟨iQ, iQ, iQ, iQ, iQ, iQ, iQ, trivial⟩, ?_⟩
       exact goW_done kQ (j7_mk v_1_0 v_1_3 v_1_4 v_1_7 v_1_8 v_1_11 b_1_13 (trivial) (hF.sub (L' := [(1, _), (2, _), (6, _), (7, _)]) ⟨rfl, rfl, rfl, rfl, trivial⟩) ((hS.perm (.cons _ (.swap _ _ _))).perm (.swap _ _ _)))
      ·refine stepW_ef _ rfl rfl hF hS rfl (ef_bslice0 ty24 ty4) ?_
       clear hF hS; rintro v_1_8 _ _ a w ⟨rfl, rfl⟩ hF hS
       refine ⟨⟨.inr (hS.k1 (sQ.n.n.n.n.n)), .inr hS.k0, .inr (hS.k1 (sQ.n.n.n.n.n)), .inr hS.k0, iQ, iQ, trivial⟩, ?_⟩
       refine gQ 7 rfl rfl hF hS rfl (ef_append ty22 ty3 1 rfl rfl rfl (src_slV ty22 hxs zin0) bQ rfl (by decide)) ?_
       clear hF hS; rintro v_1_7 _ _ a w ⟨rfl, rfl⟩ hF hS
       refine ⟨⟨.inr (hS.k1 (sQ.n.n.n.n.n)), .inr hS.k0, iQ, iQ, iQ, iQ, trivial⟩, ?_⟩
       refine gQ 11 rfl rfl hF hS rfl (ef_append ty24 ty4 0 rfl rfl rfl (src_slV ty24 hxb zin0) bQ rfl (by decide)) ?_
       clear hF hS; rintro v_1_11 _ _ a w ⟨rfl, rfl⟩ hF hS
       refine ⟨⟨iQ, iQ, iQ, iQ, iQ, iQ, trivial⟩, ?_⟩
       refine goW_take 12 _ rfl kQ rfl hF (hS.keep sQ (zQ.k.n.k.k)) (q_buildS1 ty26 3 kQ rfl rfl (oc_cons (row_one (hS.own _ (List.mem_of_getElem? (i := 3) rfl)).1) (oc_cons (row_one (hS.own _ (List.mem_of_getElem? (i := 1) rfl)).1) (oc_cons (row_one (hS.own _ (List.mem_of_getElem? (i := 0) rfl)).1) oc_nil))) rfl rfl) ?_
       clear hF; intro a hF
       refine gQ 14 rfl rfl hF hS rfl (ef_storeW ty26 2 rfl rfl rfl rfl bQ (oc_cons (row_one (hS.own _ (List.mem_of_getElem? (i := 3) rfl)).1) (oc_cons (row_one (hS.own _ (List.mem_of_getElem? (i := 1) rfl)).1) (oc_cons (row_one (hS.own _ (List.mem_of_getElem? (i := 0) rfl)).1) oc_nil))) bQ) ?_
       clear hF hS; rintro _ _ _ a w ⟨rfl, rfl, rfl⟩ hF hS
       refine ⟨⟨iQ, iQ, iQ, iQ, iQ, iQ, iQ, trivial⟩, ?_⟩
       exact goW_done kQ (j7_mk v_1_0 v_1_3 v_1_4 v_1_7 v_1_8 v_1_11 b_1_13 (trivial) (hF.sub (L' := [(1, _), (2, _), (6, _), (7, _)]) ⟨rfl, rfl, rfl, rfl, trivial⟩) ((hS.perm (.cons _ (.swap _ _ _))).perm (.swap _ _ _)))
     ·refine stepW_ef _ rfl rfl hF hS rfl (ef_bslice0 ty24 ty4) ?_
      clear hF hS; rintro v_1_8 _ _ a w ⟨rfl, rfl⟩ hF hS
      refine ⟨⟨.inr (hS.k1 (sQ.n.n.n.n.n)), .inr hS.k0, .inr (hS.k1 (sQ.n.n.n.n.n)), .inr hS.k0, .inr (hS.k1 (sQ.n.n.n.n.n)), .inr hS.k0, trivial⟩, ?_⟩
      refine gQ 3 rfl rfl hF hS rfl (ef_append ty23 ty83 3 rfl rfl rfl (src_slC ty23 hxn zin0 (by decide)) bQ rfl (by decide)) ?_
      clear hF hS; rintro v_1_3 _ _ a w ⟨rfl, rfl⟩ hF hS
      refine ⟨⟨.inr (hS.k1 (sQ.n.n.n.n.n)), .inr hS.k0, .inr (hS.k1 (sQ.n.n.n.n.n)), .inr hS.k0, iQ, iQ, trivial⟩, ?_⟩
      refine gQ 7 rfl rfl hF hS rfl (ef_append ty22 ty3 1 rfl rfl rfl (src_slV ty22 hxs zin0) bQ rfl (by decide)) ?_
      clear hF hS; rintro v_1_7 _ _ a w ⟨rfl, rfl⟩ hF hS
      refine ⟨⟨.inr (hS.k1 (sQ.n.n.n.n.n)), .inr hS.k0, iQ, iQ, iQ, iQ, trivial⟩, ?_⟩
      refine gQ 11 rfl rfl hF hS rfl (ef_append ty24 ty4 0 rfl rfl rfl (src_slV ty24 hxb zin0) bQ rfl (by decide)) ?_
      clear hF hS; rintro v_1_11 _ _ a w ⟨rfl, rfl⟩ hF hS
      refine ⟨⟨iQ, iQ, iQ, iQ, iQ, iQ, trivial⟩, ?_⟩
      refine goW_take 12 _ rfl kQ rfl hF (hS.keep sQ (zQ.k.n.k.k)) (q_buildS1 ty26 3 kQ rfl rfl (oc_cons (row_one (hS.own _ (List.mem_of_getElem? (i := 3) rfl)).1) (oc_cons (row_one (hS.own _ (List.mem_of_getElem? (i := 1) rfl)).1) (oc_cons (row_one (hS.own _ (List.mem_of_getElem? (i := 0) rfl)).1) oc_nil))) rfl rfl) ?_
      clear hF; intro a hF
      refine gQ 14 rfl rfl hF hS rfl (ef_storeW ty26 2 rfl rfl rfl rfl bQ (oc_cons (row_one (hS.own _ (List.mem_of_getElem? (i := 3) rfl)).1) (oc_cons (row_one (hS.own _ (List.mem_of_getElem? (i := 1) rfl)).1) (oc_cons (row_one (hS.own _ (List.mem_of_getElem? (i := 0) rfl)).1) oc_nil))) bQ) ?_
      clear hF hS; rintro _ _ _ a w ⟨rfl, rfl, rfl⟩ hF hS
      refine ⟨⟨iQ, iQ, iQ, iQ, iQ, iQ, iQ, trivial⟩, ?_⟩
      exact goW_done kQ (j7_mk v_1_0 v_1_3 v_1_4 v_1_7 v_1_8 v_1_11 b_1_13 (trivial) (hF.sub (L' := [(1, _), (2, _), (6, _), (7, _)]) ⟨rfl, rfl, rfl, rfl, trivial⟩) ((hS.perm (.cons _ (.swap _ _ _))).perm (.swap _ _ _)))
    ·refine stepW_ef _ rfl rfl hF hS rfl (ef_bslice0 ty24 ty4) ?_
     clear hF hS; rintro v_1_8 _ _ a w ⟨rfl, rfl⟩ hF hS
     refine ⟨⟨.inr (hS.k1 (sQ.n.n.n.n)), .inr hS.k0, .inr (hS.k1 (sQ.n.n.n.n)), .inr hS.k0, .inr (hS.k1 (sQ.n.n.n.n)), .inr hS.k0, trivial⟩, ?_⟩
     refine goW_fork [3, 4] kQ rfl ⟨?_, ?_, trivial⟩
     ·refine stepW_ef _ rfl rfl hF hS rfl (ef_append ty23 ty83 2 rfl rfl rfl (src_slC ty23 hxn zin0 (by decide)) bQ rfl (by decide)) ?_
      clear hF hS; rintro v_1_3 _ _ a w ⟨rfl, rfl⟩ hF hS
      refine ⟨⟨.inr (hS.k1 (sQ.n.n.n.n)), .inr hS.k0, .inr (hS.k1 (sQ.n.n.n.n)), .inr hS.k0, iQ, iQ, trivial⟩, ?_⟩
      refine gQ 4 rfl rfl hF hS rfl (ef_bslice0 ty22 ty3) ?_
      clear hF hS; rintro v_1_4 _ _ a w ⟨rfl, rfl⟩ hF hS
      refine ⟨⟨.inr (hS.k1 (sQ.n.n.n.n.n)), .inr hS.k0, .inr (hS.k1 (sQ.n.n.n.n.n)), .inr hS.k0, iQ, iQ, trivial⟩, ?_⟩
      refine gQ 7 rfl rfl hF hS rfl (ef_append ty22 ty3 0 rfl rfl rfl (src_slV ty22 hxs zin0) bQ rfl (by decide)) ?_
      clear hF hS; rintro v_1_7 _ _ a w ⟨rfl, rfl⟩ hF hS
      refine ⟨⟨.inr (hS.k1 (sQ.n.n.n.n.n)), .inr hS.k0, iQ, iQ, iQ, iQ, trivial⟩, ?_⟩
      refine gQ 11 rfl rfl hF hS rfl (ef_append ty24 ty4 1 rfl rfl rfl (src_slV ty24 hxb zin0) bQ rfl (by decide)) ?_
      clear hF hS; rintro v_1_11 _ _ a w ⟨rfl, rfl⟩ hF hS
      refine ⟨⟨iQ, iQ, iQ, iQ, iQ, iQ, trivial⟩, ?_⟩
      refine goW_take 12 _ rfl kQ rfl hF (hS.keep sQ (zQ.k.n.k.k)) (q_buildS1 ty26 3 kQ rfl rfl (oc_cons (row_one (hS.own _ (List.mem_of_getElem? (i := 3) rfl)).1) (oc_cons (row_one (hS.own _ (List.mem_of_getElem? (i := 0) rfl)).1) (oc_cons (row_one (hS.own _ (List.mem_of_getElem? (i := 1) rfl)).1) oc_nil))) rfl rfl) ?_
      clear hF; intro a hF
      refine gQ 14 rfl rfl hF hS rfl (ef_storeW ty26 2 rfl rfl rfl rfl bQ (oc_cons (row_one (hS.own _ (List.mem_of_getElem? (i := 3) rfl)).1) (oc_cons (row_one (hS.own _ (List.mem_of_getElem? (i := 0) rfl)).1) (oc_cons (row_one (hS.own _ (List.mem_of_getElem? (i := 1) rfl)).1) oc_nil))) bQ) ?_
      clear hF hS; rintro _ _ _ a w ⟨rfl, rfl, rfl⟩ hF hS
      refine ⟨⟨iQ, iQ, iQ, iQ, iQ, iQ, iQ, trivial⟩, ?_⟩
      exact goW_done kQ (j7_mk v_1_0 v_1_3 v_1_4 v_1_7 v_1_8 v_1_11 b_1_13 (trivial) (hF.sub (L' := [(1, _), (2, _), (6, _), (7, _)]) ⟨rfl, rfl, rfl, rfl, trivial⟩) (((hS.perm (.cons _ (.swap _ _ _))).perm (.swap _ _ _)).perm (.cons _ (.swap _ _ _))))
     ·refine stepW_ef _ rfl rfl hF hS rfl (ef_bslice0 ty22 ty3) ?_
      clear hF hS; rintro v_1_4 _ _ a w ⟨rfl, rfl⟩ hF hS
      refine ⟨⟨.inr (hS.k1 (sQ.n.n.n.n.n)), .inr hS.k0, .inr (hS.k1 (sQ.n.n.n.n.n)), .inr hS.k0, .inr (hS.k1 (sQ.n.n.n.n.n)), .inr hS.k0, trivial⟩, ?_⟩
      refine gQ 3 rfl rfl hF hS rfl (ef_append ty23 ty83 3 rfl rfl rfl (src_slC ty23 hxn zin0 (by decide)) bQ rfl (by decide)) ?_
      clear hF hS; rintro v_1_3 _ _ a w ⟨rfl, rfl⟩ hF hS
      refine ⟨⟨.inr (hS.k1 (sQ.n.n.n.n.n)), .inr hS.k0, .inr (hS.k1 (sQ.n.n.n.n.n)), .inr hS.k0, iQ, iQ, trivial⟩, ?_⟩
      refine gQ 7 rfl rfl hF hS rfl (ef_append ty22 ty3 0 rfl rfl rfl (src_slV ty22 hxs zin0) bQ rfl (by decide)) ?_
      clear hF hS; rintro v_1_7 _ _ a w ⟨rfl, rfl⟩ hF hS
      refine ⟨⟨.inr (hS.k1 (sQ.n.n.n.n.n)), .inr hS.k0, iQ, iQ, iQ, iQ, trivial⟩, ?_⟩
      refine gQ 11 rfl rfl hF hS rfl (ef_append ty24 ty4 1 rfl rfl rfl (src_slV ty24 hxb zin0) bQ rfl (by decide)) ?_
      clear hF hS; rintro v_1_11 _ _ a w ⟨rfl, rfl⟩ hF hS
      refine ⟨⟨iQ, iQ, iQ, iQ, iQ, iQ, trivial⟩, ?_⟩
      refine goW_take 12 _ rfl kQ rfl hF (hS.keep sQ (zQ.k.n.k.k)) (q_buildS1 ty26 3 kQ rfl rfl (oc_cons (row_one (hS.own _ (List.mem_of_getElem? (i := 3) rfl)).1) (oc_cons (row_one (hS.own _ (List.mem_of_getElem? (i := 0) rfl)).1) (oc_cons (row_one (hS.own _ (List.mem_of_getElem? (i := 1) rfl)).1) oc_nil))) rfl rfl) ?_
      clear hF; intro a hF
      refine gQ 14 rfl rfl hF hS rfl (ef_storeW ty26 2 rfl rfl rfl rfl bQ (oc_cons (row_one (hS.own _ (List.mem_of_getElem? (i := 3) rfl)).1) (oc_cons (row_one (hS.own _ (List.mem_of_getElem? (i := 0) rfl)).1) (oc_cons (row_one (hS.own _ (List.mem_of_getElem? (i := 1) rfl)).1) oc_nil))) bQ) ?_
      clear hF hS; rintro _ _ _ a w ⟨rfl, rfl, rfl⟩ hF hS
      refine ⟨⟨iQ, iQ, iQ, iQ, iQ, iQ, iQ, trivial⟩, ?_⟩
      exact goW_done kQ (j7_mk v_1_0 v_1_3 v_1_4 v_1_7 v_1_8 v_1_11 b_1_13 (trivial) (hF.sub (L' := [(1, _), (2, _), (6, _), (7, _)]) ⟨rfl, rfl, rfl, rfl, trivial⟩) (((hS.perm (.cons _ (.swap _ _ _))).perm (.swap _ _ _)).perm (.cons _ (.swap _ _ _))))
  ·refine stepW_ef _ rfl rfl hF hS rfl (ef_bslice0 ty22 ty3) ?_
   clear hF hS; rintro v_1_4 _ _ a w ⟨rfl, rfl⟩ hF hS
   refine ⟨⟨.inr (hS.k1 (sQ.n.n)), .inr hS.k0, .inr (hS.k1 (sQ.n.n)), .inr hS.k0, .inr (hS.k1 (sQ.n.n)), .inr hS.k0, trivial⟩, ?_⟩
   refine goW_fork [0, 8, 13] kQ rfl ⟨?_, ?_, ?_, trivial⟩
   ·refine stepW_ef _ rfl rfl hF hS rfl (ef_bslice0 ty23 ty83) ?_
    clear hF hS; rintro v_1_0 _ _ a w ⟨rfl, rfl⟩ hF hS
    refine ⟨⟨.inr (hS.k1 (sQ.n.n.n)), .inr hS.k0, .inr (hS.k1 (sQ.n.n.n)), .inr hS.k0, .inr (hS.k1 (sQ.n.n.n)), .inr hS.k0, trivial⟩, ?_⟩
    refine goW_fork [3, 8, 13] kQ rfl ⟨?_, ?_, ?_, trivial⟩
    ·refine stepW_ef _ rfl rfl hF hS rfl (ef_append ty23 ty83 0 rfl rfl rfl (src_slC ty23 hxn zin0 (by decide)) bQ rfl (by decide)) ?_
     clear hF hS; rintro v_1_3 _ _ a w ⟨rfl, rfl⟩ hF hS
     refine ⟨⟨.inr (hS.k1 (sQ.n.n.n)), .inr hS.k0, .inr (hS.k1 (sQ.n.n.n)), .inr hS.k0, iQ, iQ, trivial⟩, ?_⟩
     refine goW_fork [7, 8, 13] kQ rfl ⟨?_, ?_, ?_, trivial⟩
     ·refine stepW_ef _ rfl rfl hF hS rfl (ef_append ty22 ty3 1 rfl rfl rfl (src_slV ty22 hxs zin0) bQ rfl (by decide)) ?_
      clear hF hS; rintro v_1_7 _ _ a w ⟨rfl, rfl⟩ hF hS
      refine ⟨⟨.inr (hS.k1 (sQ.n.n.n)), .inr hS.k0, iQ, iQ, iQ, iQ, trivial⟩, ?_⟩
      refine goW_fork [8, 13] kQ rfl ⟨?_, ?_, trivial⟩
      ·refine stepW_ef _ rfl rfl hF hS rfl (ef_bslice0 ty24 ty4) ?_
       clear hF hS; rintro v_1_8 _ _ a w ⟨rfl, rfl⟩ hF hS
       refine ⟨⟨.inr (hS.k1 (sQ.n.n.n.n)), .inr hS.k0, iQ, iQ, iQ, iQ, trivial⟩, ?_⟩
       refine goW_fork [11, 13] kQ rfl ⟨?_, ?_, trivial⟩
       ·refine stepW_ef _ rfl rfl hF hS rfl (ef_append ty24 ty4 0 rfl rfl rfl (src_slV ty24 hxb zin0) bQ rfl (by decide)) ?_
        clear hF hS; rintro v_1_11 _ _ a w ⟨rfl, rfl⟩ hF hS
        refine ⟨⟨iQ, iQ, iQ, iQ, iQ, iQ, trivial⟩, ?_⟩
        refine goW_take 12 _ rfl kQ rfl hF (hS.keep sQ (zQ.k.k.k)) (q_buildS1 ty26 3 kQ rfl rfl (oc_cons (row_one (hS.own _ (List.mem_of_getElem? (i := 1) rfl)).1) (oc_cons (row_one (hS.own _ (List.mem_of_getElem? (i := 2) rfl)).1) (oc_cons (row_one (hS.own _ (List.mem_of_getElem? (i := 0) rfl)).1) oc_nil))) rfl rfl) ?_
        clear hF; intro a hF
        refine gQ 13 rfl rfl hF hS rfl (ef_allocA ty26) ?_
        clear hF hS; rintro _ _ _ a w ⟨b_1_13, rfl, rfl, rfl⟩ hF hS
        refine ⟨⟨.inr (hS.k1 (zQ.k.k.k.n)), iQ, iQ, iQ, iQ, iQ, iQ, trivial⟩, ?_⟩
        refine gQ 14 rfl rfl hF hS rfl (ef_storeW ty26 0 rfl rfl rfl rfl bQ (oc_cons (row_one (hS.own _ (List.mem_of_getElem? (i := 2) rfl)).1) (oc_cons (row_one (hS.own _ (List.mem_of_getElem? (i := 3) rfl)).1) (oc_cons (row_one (hS.own _ (List.mem_of_getElem? (i := 1) rfl)).1) oc_nil))) bQ) ?_
        clear hF hS; rintro _ _ _ a w ⟨rfl, rfl, rfl⟩ hF hS
        refine ⟨⟨iQ, iQ, iQ, iQ, iQ, iQ, iQ, trivial⟩, ?_⟩
        exact goW_done kQ (j7_mk v_1_0 v_1_3 v_1_4 v_1_7 v_1_8 v_1_11 b_1_13 (trivial) (hF.sub (L' := [(1, _), (2, _), (6, _), (7, _)]) ⟨rfl, rfl, rfl, rfl, trivial⟩) (hS.perm (.cons _ (.cons _ (.swap _ _ _)))))
       ·refine stepW_ef _ rfl rfl hF hS rfl (ef_allocA ty26) ?_
        clear hF hS; rintro _ _ _ a w ⟨b_1_13, rfl, rfl, rfl⟩ hF hS
        refine ⟨⟨.inr (hS.k1 (sQ.n.n.n.n.n)), .inr hS.k0, iQ, iQ, iQ, iQ, trivial⟩, ?_⟩
        refine gQ 11 rfl rfl hF hS rfl (ef_append ty24 ty4 1 rfl rfl rfl (src_slV ty24 hxb zin0) bQ rfl (by decide)) ?_
        clear hF hS; rintro v_1_11 _ _ a w ⟨rfl, rfl⟩ hF hS
        refine ⟨⟨iQ, iQ, iQ, iQ, iQ, iQ, trivial⟩, ?_⟩
        refine goW_take 12 _ rfl kQ rfl hF (hS.keep sQ (zQ.k.k.k.n)) (q_buildS1 ty26 3 kQ rfl rfl (oc_cons (row_one (hS.own _ (List.mem_of_getElem? (i := 2) rfl)).1) (oc_cons (row_one (hS.own _ (List.mem_of_getElem? (i := 3) rfl)).1) (oc_cons (row_one (hS.own _ (List.mem_of_getElem? (i := 1) rfl)).1) oc_nil))) rfl rfl) ?_
        clear hF; intro a hF
        refine gQ 14 rfl rfl hF hS rfl (ef_storeW ty26 0 rfl rfl rfl rfl bQ (oc_cons (row_one (hS.own _ (List.mem_of_getElem? (i := 2) rfl)).1) (oc_cons (row_one (hS.own _ (List.mem_of_getElem? (i := 3) rfl)).1) (oc_cons (row_one (hS.own _ (List.mem_of_getElem? (i := 1) rfl)).1) oc_nil))) bQ) ?_
        clear hF hS; rintro _ _ _ a w ⟨rfl, rfl, rfl⟩ hF hS
        refine ⟨⟨iQ, iQ, iQ, iQ, iQ, iQ, iQ, trivial⟩, ?_⟩
        exact goW_done kQ (j7_mk v_1_0 v_1_3 v_1_4 v_1_7 v_1_8 v_1_11 b_1_13 (trivial) (hF.sub (L' := [(1, _), (2, _), (6, _), (7, _)]) ⟨rfl, rfl, rfl, rfl, trivial⟩) (hS.perm (.cons _ (.cons _ (.swap _ _ _)))))
      ·refine stepW_ef _ rfl rfl hF hS rfl (ef_allocA ty26) ?_
       clear hF hS; rintro _ _ _ a w ⟨b_1_13, rfl, rfl, rfl⟩ hF hS
       refine ⟨⟨.inr (hS.k1 (sQ.n.n.n.n)), .inr hS.k0, iQ, iQ, iQ, iQ, trivial⟩, ?_⟩
       refine gQ 8 rfl rfl hF hS rfl (ef_bslice0 ty24 ty4) ?_
       clear hF hS; rintro v_1_8 _ _ a w ⟨rfl, rfl⟩ hF hS
       refine ⟨⟨.inr (hS.k1 (sQ.n.n.n.n.n)), .inr hS.k0, iQ, iQ, iQ, iQ, trivial⟩, ?_⟩
       refine gQ 11 rfl rfl hF hS rfl (ef_append ty24 ty4 0 rfl rfl rfl (src_slV ty24 hxb zin0) bQ rfl (by decide)) ?_
       clear hF hS; rintro v_1_11 _ _ a w ⟨rfl, rfl⟩ hF hS
       refine ⟨⟨iQ, iQ, iQ, iQ, iQ, iQ, trivial⟩, ?_⟩
       refine goW_take 12 _ rfl kQ rfl hF (hS.keep sQ (zQ.k.k.n.k)) (q_buildS1 ty26 3 kQ rfl rfl (oc_cons (row_one (hS.own _ (List.mem_of_getElem? (i := 2) rfl)).1) (oc_cons (row_one (hS.own _ (List.mem_of_getElem? (i := 3) rfl)).1) (oc_cons (row_one (hS.own _ (List.mem_of_getElem? (i := 0) rfl)).1) oc_nil))) rfl rfl) ?_
       clear hF; intro a hF
       refine gQ 14 rfl rfl hF hS rfl (ef_storeW ty26 1 rfl rfl rfl rfl bQ (oc_cons (row_one (hS.own _ (List.mem_of_getElem? (i := 2) rfl)).1) (oc_cons (row_one (hS.own _ (List.mem_of_getElem? (i := 3) rfl)).1) (oc_cons (row_one (hS.own _ (List.mem_of_getElem? (i := 0) rfl)).1) oc_nil))) bQ) ?_
       clear hF hS; rintro _ _ _ a w ⟨rfl, rfl, rfl⟩ hF hS
       refine ⟨⟨iQ, iQ, iQ, iQ, iQ, iQ, iQ, trivial⟩, ?_⟩
       exact goW_done kQ (j7_mk v_1_0 v_1_3 v_1_4 v_1_7 v_1_8 v_1_11 b_1_13 (trivial) (hF.sub (L' := [(1, _), (2, _), (6, _), (7, _)]) ⟨rfl, rfl, rfl, rfl, trivial⟩) ((hS.perm (.swap _ _ _)).perm (.cons _ (.cons _ (.swap _ _ _)))))
     ·refine stepW_ef _ rfl rfl hF hS rfl (ef_bslice0 ty24 ty4) ?_
      clear hF hS; rintro v_1_8 _ _ a w ⟨rfl, rfl⟩ hF hS
      refine ⟨⟨.inr (hS.k1 (sQ.n.n.n.n)), .inr hS.k0, .inr (hS.k1 (sQ.n.n.n.n)), .inr hS.k0, iQ, iQ, trivial⟩, ?_⟩
      refine goW_fork [7, 13] kQ rfl ⟨?_, ?_, trivial⟩
      ·refine stepW_ef _ rfl rfl hF hS rfl (ef_append ty22 ty3 2 rfl rfl rfl (src_slV ty22 hxs zin0) bQ rfl (by decide)) ?_
       clear hF hS; rintro v_1_7 _ _ a w ⟨rfl, rfl⟩ hF hS
       refine ⟨⟨.inr (hS.k1 (sQ.n.n.n.n)), .inr hS.k0, iQ, iQ, iQ, iQ, trivial⟩, ?_⟩
       refine goW_fork [11, 13] kQ rfl ⟨?_, ?_, trivial⟩
       ·refine stepW_ef _ rfl rfl hF hS rfl (ef_append ty24 ty4 0 rfl rfl rfl (src_slV ty24 hxb zin0) bQ rfl (by decide)) ?_
        clear hF hS; rintro v_1_11 _ _ a w ⟨rfl, rfl⟩ hF hS
        refine ⟨⟨iQ, iQ, iQ, iQ, iQ, iQ, trivial⟩, ?_⟩
        refine goW_take 12 _ rfl kQ rfl hF (hS.keep sQ (zQ.k.k.k)) (q_buildS1 ty26 3 kQ rfl rfl (oc_cons (row_one (hS.own _ (List.mem_of_getElem? (i := 1) rfl)).1) (oc_cons (row_one (hS.own _ (List.mem_of_getElem? (i := 2) rfl)).1) (oc_cons (row_one (hS.own _ (List.mem_of_getElem? (i := 0) rfl)).1) oc_nil))) rfl rfl) ?_
        clear hF; intro a hF
        refine gQ 13 rfl rfl hF hS rfl (ef_allocA ty26) ?_
        clear hF hS; rintro _ _ _ a w ⟨b_1_13, rfl, rfl, rfl⟩ hF hS
        refine ⟨⟨.inr (hS.k1 (zQ.k.k.k.n)), iQ, iQ, iQ, iQ, iQ, iQ, trivial⟩, ?_⟩
        refine gQ 14 rfl rfl hF hS rfl (ef_storeW ty26 0 rfl rfl rfl rfl bQ (oc_cons (row_one (hS.own _ (List.mem_of_getElem? (i := 2) rfl)).1) (oc_cons (row_one (hS.own _ (List.mem_of_getElem? (i := 3) rfl)).1) (oc_cons (row_one (hS.own _ (List.mem_of_getElem? (i := 1) rfl)).1) oc_nil))) bQ) ?_
        clear hF hS; rintro _ _ _ a w ⟨rfl, rfl, rfl⟩ hF hS
        refine ⟨⟨iQ, iQ, iQ, iQ, iQ, iQ, iQ, trivial⟩, ?_⟩
        exact goW_done kQ (j7_mk v_1_0 v_1_3 v_1_4 v_1_7 v_1_8 v_1_11 b_1_13 (trivial) (hF.sub (L' := [(1, _), (2, _), (6, _), (7, _)]) ⟨rfl, rfl, rfl, rfl, trivial⟩) (hS.perm (.cons _ (.cons _ (.swap _ _ _)))))
       ·refine stepW_ef _ rfl rfl hF hS rfl (ef_allocA ty26) ?_
        clear hF hS; rintro _ _ _ a w ⟨b_1_13, rfl, rfl, rfl⟩ hF hS
        refine ⟨⟨.inr (hS.k1 (sQ.n.n.n.n.n)), .inr hS.k0, iQ, iQ, iQ, iQ, trivial⟩, ?_⟩
        refine gQ 11 rfl rfl hF hS rfl (ef_append ty24 ty4 1 rfl rfl rfl (src_slV ty24 hxb zin0) bQ rfl (by decide)) ?_
        clear hF hS; rintro v_1_11 _ _ a w ⟨rfl, rfl⟩ hF hS
        refine ⟨⟨iQ, iQ, iQ, iQ, iQ, iQ, trivial⟩, ?_⟩
        refine goW_take 12 _ rfl kQ rfl hF (hS.keep sQ (zQ.k.k.k.n)) (q_buildS1 ty26 3 kQ rfl rfl (oc_cons (row_one (hS.own _ (List.mem_of_getElem? (i := 2) rfl)).1) (oc_cons (row_one (hS.own _ (List.mem_of_getElem? (i := 3) rfl)).1) (oc_cons (row_one (hS.own _ (List.mem_of_getElem? (i := 1) rfl)).1) oc_nil))) rfl rfl) ?_
        clear hF; intro a hF
        refine gQ 14 rfl rfl hF hS rfl (ef_storeW ty26 0 rfl rfl rfl rfl bQ (oc_cons (row_one (hS.own _ (List.mem_of_getElem? (i := 2) rfl)).1) (oc_cons (row_one (hS.own _ (List.mem_of_getElem? (i := 3) rfl)).1) (oc_cons (row_one (hS.own _ (List.mem_of_getElem? (i := 1) rfl)).1) oc_nil))) bQ) ?_
        clear hF hS; rintro _ _ _ a w ⟨rfl, rfl, rfl⟩ hF hS
        refine ⟨⟨iQ, iQ, iQ, iQ, iQ, iQ, iQ, trivial⟩, ?_⟩
        exact goW_done kQ (j7_mk v_1_0 v_1_3 v_1_4 v_1_7 v_1_8 v_1_11 b_1_13 (trivial) (hF.sub (L' := [(1, _), (2, _), (6, _), (7, _)]) ⟨rfl, rfl, rfl, rfl, trivial⟩) (hS.perm (.cons _ (.cons _ (.swap _ _ _)))))
      ·refine stepW_ef _ rfl rfl hF hS rfl (ef_allocA ty26) ?_
       clear hF hS; rintro _ _ _ a w ⟨b_1_13, rfl, rfl, rfl⟩ hF hS
       refine ⟨⟨.inr (hS.k1 (sQ.n.n.n.n.n)), .inr hS.k0, .inr (hS.k1 (sQ.n.n.n.n.n)), .inr hS.k0, iQ, iQ, trivial⟩, ?_⟩
       refine gQ 7 rfl rfl hF hS rfl (ef_append ty22 ty3 3 rfl rfl rfl (src_slV ty22 hxs zin0) bQ rfl (by decide)) ?_
       clear hF hS; rintro v_1_7 _ _ a w ⟨rfl, rfl⟩ hF hS
       refine ⟨⟨.inr (hS.k1 (sQ.n.n.n.n.n)), .inr hS.k0, iQ, iQ, iQ, iQ, trivial⟩, ?_⟩
       refine gQ 11 rfl rfl hF hS rfl (ef_append ty24 ty4 1 rfl rfl rfl (src_slV ty24 hxb zin0) bQ rfl (by decide)) ?_
       clear hF hS; rintro v_1_11 _ _ a w ⟨rfl, rfl⟩ hF hS
       refine ⟨⟨iQ, iQ, iQ, iQ, iQ, iQ, trivial⟩, ?_⟩
       refine goW_take 12 _ rfl kQ rfl hF (hS.keep sQ (zQ.k.k.k.n)) (q_buildS1 ty26 3 kQ rfl rfl (oc_cons (row_one (hS.own _ (List.mem_of_getElem? (i := 2) rfl)).1) (oc_cons (row_one (hS.own _ (List.mem_of_getElem? (i := 3) rfl)).1) (oc_cons (row_one (hS.own _ (List.mem_of_getElem? (i := 1) rfl)).1) oc_nil))) rfl rfl) ?_
       clear hF; intro a hF
       refine gQ 14 rfl rfl hF hS rfl (ef_storeW ty26 0 rfl rfl rfl rfl bQ (oc_cons (row_one (hS.own _ (List.mem_of_getElem? (i := 2) rfl)).1) (oc_cons (row_one (hS.own _ (List.mem_of_getElem? (i := 3) rfl)).1) (oc_cons (row_one (hS.own _ (List.mem_of_getElem? (i := 1) rfl)).1) oc_nil))) bQ) ?_
       clear hF hS; rintro _ _ _ a w ⟨rfl, rfl, rfl⟩ hF hS
       refine ⟨⟨iQ, iQ, iQ, iQ, iQ, iQ, iQ, trivial⟩, ?_⟩
       exact goW_done kQ (j7_mk v_1_0 v_1_3 v_1_4 v_1_7 v_1_8 v_1_11 b_1_13 (trivial) (hF.sub (L' := [(1, _), (2, _), (6, _), (7, _)]) ⟨rfl, rfl, rfl, rfl, trivial⟩) (hS.perm (.cons _ (.cons _ (.swap _ _ _)))))
     ·refine stepW_ef _ rfl rfl hF hS rfl (ef_allocA ty26) ?_
      clear hF hS; rintro _ _ _ a w ⟨b_1_13, rfl, rfl, rfl⟩ hF hS
      refine ⟨⟨.inr (hS.k1 (sQ.n.n.n.n)), .inr hS.k0, .inr (hS.k1 (sQ.n.n.n.n)), .inr hS.k0, iQ, iQ, trivial⟩, ?_⟩
      refine goW_fork [7, 8] kQ rfl ⟨?_, ?_, trivial⟩
      ·refine stepW_ef _ rfl rfl hF hS rfl (ef_append ty22 ty3 2 rfl rfl rfl (src_slV ty22 hxs zin0) bQ rfl (by decide)) ?_
       clear hF hS; rintro v_1_7 _ _ a w ⟨rfl, rfl⟩ hF hS
       refine ⟨⟨.inr (hS.k1 (sQ.n.n.n.n)), .inr hS.k0, iQ, iQ, iQ, iQ, trivial⟩, ?_⟩
       refine gQ 8 rfl rfl hF hS rfl (ef_bslice0 ty24 ty4) ?_
       clear hF hS; rintro v_1_8 _ _ a w ⟨rfl, rfl⟩ hF hS
       refine ⟨⟨.inr (hS.k1 (sQ.n.n.n.n.n)), .inr hS.k0, iQ, iQ, iQ, iQ, trivial⟩, ?_⟩
       refine gQ 11 rfl rfl hF hS rfl (ef_append ty24 ty4 0 rfl rfl rfl (src_slV ty24 hxb zin0) bQ rfl (by decide)) ?_
       clear hF hS; rintro v_1_11 _ _ a w ⟨rfl, rfl⟩ hF hS
       refine ⟨⟨iQ, iQ, iQ, iQ, iQ, iQ, trivial⟩, ?_⟩
       refine goW_take 12 _ rfl kQ rfl hF (hS.keep sQ (zQ.k.k.n.k)) (q_buildS1 ty26 3 kQ rfl rfl (oc_cons (row_one (hS.own _ (List.mem_of_getElem? (i := 2) rfl)).1) (oc_cons (row_one (hS.own _ (List.mem_of_getElem? (i := 3) rfl)).1) (oc_cons (row_one (hS.own _ (List.mem_of_getElem? (i := 0) rfl)).1) oc_nil))) rfl rfl) ?_
       clear hF; intro a hF
       refine gQ 14 rfl rfl hF hS rfl (ef_storeW ty26 1 rfl rfl rfl rfl bQ (oc_cons (row_one (hS.own _ (List.mem_of_getElem? (i := 2) rfl)).1) (oc_cons (row_one (hS.own _ (List.mem_of_getElem? (i := 3) rfl)).1) (oc_cons (row_one (hS.own _ (List.mem_of_getElem? (i := 0) rfl)).1) oc_nil))) bQ) ?_
       clear hF hS; rintro _ _ _ a w ⟨rfl, rfl, rfl⟩ hF hS
       refine ⟨⟨iQ, iQ, iQ, iQ, iQ, iQ, iQ, trivial⟩, ?_⟩
       exact goW_done kQ (j7_mk v_1_0 v_1_3 v_1_4 v_1_7 v_1_8 v_1_11 b_1_13 (trivial) (hF.sub (L' := [(1, _), (2, _), (6, _), (7, _)]) ⟨rfl, rfl, rfl, rfl, trivial⟩) ((hS.perm (.swap _ _ _)).perm (.cons _ (.cons _ (.swap _ _ _)))))
      ·refine stepW_ef _ rfl rfl hF hS rfl (ef_bslice0 ty24 ty4) ?_
       clear hF hS; rintro v_1_8 _ _ a w ⟨rfl, rfl⟩ hF hS
       refine ⟨⟨.inr (hS.k1 (sQ.n.n.n.n.n)), .inr hS.k0, .inr (hS.k1 (sQ.n.n.n.n.n)), .inr hS.k0, iQ, iQ, trivial⟩, ?_⟩
       refine gQ 7 rfl rfl hF hS rfl (ef_append ty22 ty3 3 rfl rfl rfl (src_slV ty22 hxs zin0) bQ rfl (by decide)) ?_
       clear hF hS; rintro v_1_7 _ _ a w ⟨rfl, rfl⟩ hF hS
       refine ⟨⟨.inr (hS.k1 (sQ.n.n.n.n.n)), .inr hS.k0, iQ, iQ, iQ, iQ, trivial⟩, ?_⟩
       refine gQ 11 rfl rfl hF hS rfl (ef_append ty24 ty4 0 rfl rfl rfl (src_slV ty24 hxb zin0) bQ rfl (by decide)) ?_
       clear hF hS; rintro v_1_11 _ _ a w ⟨rfl, rfl⟩ hF hS
       refine ⟨⟨iQ, iQ, iQ, iQ, iQ, iQ, trivial⟩, ?_⟩
       refine goW_take 12 _ rfl kQ rfl hF (hS.keep sQ (zQ.k.k.n.k)) (q_buildS1 ty26 3 kQ rfl rfl (oc_cons (row_one (hS.own _ (List.mem_of_getElem? (i := 2) rfl)).1) (oc_cons (row_one (hS.own _ (List.mem_of_getElem? (i := 3) rfl)).1) (oc_cons (row_one (hS.own _ (List.mem_of_getElem? (i := 0) rfl)).1) oc_nil))) rfl rfl) ?_
       clear hF; intro a hF
       refine gQ 14 rfl rfl hF hS rfl (ef_storeW ty26 1 rfl rfl rfl rfl bQ (oc_cons (row_one (hS.own _ (List.mem_of_getElem? (i := 2) rfl)).1) (oc_cons (row_one (hS.own _ (List.mem_of_getElem? (i := 3) rfl)).1) (oc_cons (row_one (hS.own _ (List.mem_of_getElem? (i := 0) rfl)).1) oc_nil))) bQ) ?_
       clear hF hS; rintro _ _ _ a w ⟨rfl, rfl, rfl⟩ hF hS
       refine ⟨⟨iQ, iQ, iQ, iQ, iQ, iQ, iQ, trivial⟩, ?_⟩
       exact goW_done kQ (j7_mk v_1_0 v_1_3 v_1_4 v_1_7 v_1_8 v_1_11 b_1_13 (trivial) (hF.sub (L' := [(1, _), (2, _), (6, _), (7, _)]) ⟨rfl, rfl, rfl, rfl, trivial⟩) ((hS.perm (.swap _ _ _)).perm (.cons _ (.cons _ (.swap _ _ _)))))
    ·refine stepW_ef _ rfl rfl hF hS rfl (ef_bslice0 ty24 ty4) ?_
     clear hF hS; rintro v_1_8 _ _ a w ⟨rfl, rfl⟩ hF hS
     refine ⟨⟨.inr (hS.k1 (sQ.n.n.n.n)), .inr hS.k0, .inr (hS.k1 (sQ.n.n.n.n)), .inr hS.k0, .inr (hS.k1 (sQ.n.n.n.n)), .inr hS.k0, trivial⟩, ?_⟩
     refine goW_fork [3, 13] kQ rfl ⟨?_, ?_, trivial⟩
     ·refine stepW_ef _ rfl rfl hF hS rfl (ef_append ty23 ty83 1 rfl rfl rfl (src_slC ty23 hxn zin0 (by decide)) bQ rfl (by decide)) ?_
      clear hF hS; rintro v_1_3 _ _ a w ⟨rfl, rfl⟩ hF hS
      refine ⟨⟨.inr (hS.k1 (sQ.n.n.n.n)), .inr hS.k0, .inr (hS.k1 (sQ.n.n.n.n)), .inr hS.k0, iQ, iQ, trivial⟩, ?_⟩
      refine goW_fork [7, 13] kQ rfl ⟨?_, ?_, trivial⟩
      ·refine stepW_ef _ rfl rfl hF hS rfl (ef_append ty22 ty3 2 rfl rfl rfl (src_slV ty22 hxs zin0) bQ rfl (by decide)) ?_
       clear hF hS; rintro v_1_7 _ _ a w ⟨rfl, rfl⟩ hF hS
       refine ⟨⟨.inr (hS.k1 (sQ.n.n.n.n)), .inr hS.k0, iQ, iQ, iQ, iQ, trivial⟩, ?_⟩
       refine goW_fork [11, 13] kQ rfl ⟨?_, ?_, trivial⟩
       ·refine stepW_ef _ rfl rfl hF hS rfl (ef_append ty24 ty4 0 rfl rfl rfl (src_slV ty24 hxb zin0) bQ rfl (by decide)) ?_
        clear hF hS; rintro v_1_11 _ _ a w ⟨rfl, rfl⟩ hF hS
        refine ⟨⟨iQ, iQ, iQ, iQ, iQ, iQ, trivial⟩, ?_⟩
        refine goW_take 12 _ rfl kQ rfl hF (hS.keep sQ (zQ.k.k.k)) (q_buildS1 ty26 3 kQ rfl rfl (oc_cons (row_one (hS.own _ (List.mem_of_getElem? (i := 1) rfl)).1) (oc_cons (row_one (hS.own _ (List.mem_of_getElem? (i := 2) rfl)).1) (oc_cons (row_one (hS.own _ (List.mem_of_getElem? (i := 0) rfl)).1) oc_nil))) rfl rfl) ?_
        clear hF; intro a hF
        refine gQ 13 rfl rfl hF hS rfl (ef_allocA ty26) ?_
        clear hF hS; rintro _ _ _ a w ⟨b_1_13, rfl, rfl, rfl⟩ hF hS
        refine ⟨⟨.inr (hS.k1 (zQ.k.k.k.n)), iQ, iQ, iQ, iQ, iQ, iQ, trivial⟩, ?_⟩
        refine gQ 14 rfl rfl hF hS rfl (ef_storeW ty26 0 rfl rfl rfl rfl bQ (oc_cons (row_one (hS.own _ (List.mem_of_getElem? (i := 2) rfl)).1) (oc_cons (row_one (hS.own _ (List.mem_of_getElem? (i := 3) rfl)).1) (oc_cons (row_one (hS.own _ (List.mem_of_getElem? (i := 1) rfl)).1) oc_nil))) bQ) ?_
        clear hF hS; rintro _ _ _ a w ⟨rfl, rfl, rfl⟩ hF hS
        refine ⟨⟨iQ, iQ, iQ, iQ, iQ, iQ, iQ, trivial⟩, ?_⟩
        exact goW_done kQ (j7_mk v_1_0 v_1_3 v_1_4 v_1_7 v_1_8 v_1_11 b_1_13 (trivial) (hF.sub (L' := [(1, _), (2, _), (6, _), (7, _)]) ⟨rfl, rfl, rfl, rfl, trivial⟩) (hS.perm (.cons _ (.cons _ (.swap _ _ _)))))
       ·refine stepW_ef _ rfl rfl hF hS rfl (ef_allocA ty26) ?_
        clear hF hS; rintro _ _ _ a w ⟨b_1_13, rfl, rfl, rfl⟩ hF hS
        refine ⟨⟨.inr (hS.k1 (sQ.n.n.n.n.n)), .inr hS.k0, iQ, iQ, iQ, iQ, trivial⟩, ?_⟩
        refine gQ 11 rfl rfl hF hS rfl (ef_append ty24 ty4 1 rfl rfl rfl (src_slV ty24 hxb zin0) bQ rfl (by decide)) ?_
        clear hF hS; rintro v_1_11 _ _ a w ⟨rfl, rfl⟩ hF hS
        refine ⟨⟨iQ, iQ, iQ, iQ, iQ, iQ, trivial⟩, ?_⟩
        refine goW_take 12 _ rfl kQ rfl hF (hS.keep sQ (zQ.k.k.k.n)) (q_buildS1 ty26 3 kQ rfl rfl (oc_cons (row_one (hS.own _ (List.mem_of_getElem? (i := 2) rfl)).1) (oc_cons (row_one (hS.own _ (List.mem_of_getElem? (i := 3) rfl)).1) (oc_cons (row_one (hS.own _ (List.mem_of_getElem? (i := 1) rfl)).1) oc_nil))) rfl rfl) ?_
        clear hF; intro a hF
        refine gQ 14 rfl rfl hF hS rfl (ef_storeW ty26 0 rfl rfl rfl rfl bQ (oc_cons (row_one (hS.own _ (List.mem_of_getElem? (i := 2) rfl)).1) (oc_cons (row_one (hS.own _ (List.mem_of_getElem? (i := 3) rfl)).1) (oc_cons (row_one (hS.own _ (List.mem_of_getElem? (i := 1) rfl)).1) oc_nil))) bQ) ?_
        clear hF hS; rintro _ _ _ a w ⟨rfl, rfl, rfl⟩ hF hS
        refine ⟨⟨iQ, iQ, iQ, iQ, iQ, iQ, iQ, trivial⟩, ?_⟩
        exact goW_done kQ (j7_mk v_1_0 v_1_3 v_1_4 v_1_7 v_1_8 v_1_11 b_1_13 (trivial) (hF.sub (L' := [(1, _), (2, _), (6, _), (7, _)]) ⟨rfl, rfl, rfl, rfl, trivial⟩) (hS.perm (.cons _ (.cons _ (.swap _ _ _)))))
      ·refine stepW_ef _ rfl rfl hF hS rfl (ef_allocA ty26) ?_
       clear hF hS; rintro _ _ _ a w ⟨b_1_13, rfl, rfl, rfl⟩ hF hS
       refine ⟨⟨.inr (hS.k1 (sQ.n.n.n.n.n)), .inr hS.k0, .inr (hS.k1 (sQ.n.n.n.n.n)), .inr hS.k0, iQ, iQ, trivial⟩, ?_⟩
       refine gQ 7 rfl rfl hF hS rfl (ef_append ty22 ty3 3 rfl rfl rfl (src_slV ty22 hxs zin0) bQ rfl (by decide)) ?_
       clear hF hS; rintro v_1_7 _ _ a w ⟨rfl, rfl⟩ hF hS
       refine ⟨⟨.inr (hS.k1 (sQ.n.n.n.n.n)), .inr hS.k0, iQ, iQ, iQ, iQ, trivial⟩, ?_⟩
       refine gQ 11 rfl rfl hF hS rfl (ef_append ty24 ty4 1 rfl rfl rfl (src_slV ty24 hxb zin0) bQ rfl (by decide)) ?_
       clear hF hS; rintro v_1_11 _ _ a w ⟨rfl, rfl⟩ hF hS
       refine ⟨⟨iQ, iQ, iQ, iQ, iQ, iQ, trivial⟩, ?_⟩
       refine goW_take 12 _ rfl kQ rfl hF (hS.keep sQ (zQ.k.k.k.n)) (q_buildS1 ty26 3 kQ rfl rfl (oc_cons (row_one (hS.own _ (List.mem_of_getElem? (i := 2) rfl)).1) (oc_cons (row_one (hS.own _ (List.mem_of_getElem? (i := 3) rfl)).1) (oc_cons (row_one (hS.own _ (List.mem_of_getElem? (i := 1) rfl)).1) oc_nil))) rfl rfl) ?_
       clear hF; intro a hF
       refine gQ 14 rfl rfl hF hS rfl (ef_storeW ty26 0 rfl rfl rfl rfl bQ (oc_cons (row_one (hS.own _ (List.mem_of_getElem? (i := 2) rfl)).1) (oc_cons (row_one (hS.own _ (List.mem_of_getElem? (i := 3) rfl)).1) (oc_cons (row_one (hS.own _ (List.mem_of_getElem? (i := 1) rfl)).1) oc_nil))) bQ) ?_
       clear hF hS; rintro _ _ _ a w ⟨rfl, rfl, rfl⟩ hF hS
       refine ⟨⟨iQ, iQ, iQ, iQ, iQ, iQ, iQ, trivial⟩, ?_⟩
       exact goW_done kQ (j7_mk v_1_0 v_1_3 v_1_4 v_1_7 v_1_8 v_1_11 b_1_13 (trivial) (hF.sub (L' := [(1, _), (2, _), (6, _), (7, _)]) ⟨rfl, rfl, rfl, rfl, trivial⟩) (hS.perm (.cons _ (.cons _ (.swap _ _ _)))))
     ·refine stepW_ef _ rfl rfl hF hS rfl (ef_allocA ty26) ?_
      clear hF hS; rintro _ _ _ a w ⟨b_1_13, rfl, rfl, rfl⟩ hF hS
      refine ⟨⟨.inr (hS.k1 (sQ.n.n.n.n.n)), .inr hS.k0, .inr (hS.k1 (sQ.n.n.n.n.n)), .inr hS.k0, .inr (hS.k1 (sQ.n.n.n.n.n)), .inr hS.k0, trivial⟩, ?_⟩
      refine gQ 3 rfl rfl hF hS rfl (ef_append ty23 ty83 2 rfl rfl rfl (src_slC ty23 hxn zin0 (by decide)) bQ rfl (by decide)) ?_
      clear hF hS; rintro v_1_3 _ _ a w ⟨rfl, rfl⟩ hF hS
      refine ⟨⟨.inr (hS.k1 (sQ.n.n.n.n.n)), .inr hS.k0, .inr (hS.k1 (sQ.n.n.n.n.n)), .inr hS.k0, iQ, iQ, trivial⟩, ?_⟩
      refine gQ 7 rfl rfl hF hS rfl (ef_append ty22 ty3 3 rfl rfl rfl (src_slV ty22 hxs zin0) bQ rfl (by decide)) ?_
      clear hF hS; rintro v_1_7 _ _ a w ⟨rfl, rfl⟩ hF hS
      refine ⟨⟨.inr (hS.k1 (sQ.n.n.n.n.n)), .inr hS.k0, iQ, iQ, iQ, iQ, trivial⟩, ?_⟩
      refine gQ 11 rfl rfl hF hS rfl (ef_append ty24 ty4 1 rfl rfl rfl (src_slV ty24 hxb zin0) bQ rfl (by decide)) ?_
      clear hF hS; rintro v_1_11 _ _ a w ⟨rfl, rfl⟩ hF hS
      refine ⟨⟨iQ, iQ, iQ, iQ, iQ, iQ, trivial⟩, ?_⟩
      refine goW_take 12 _ rfl kQ rfl hF (hS.keep sQ (zQ.k.k.k.n)) (q_buildS1 ty26 3 kQ rfl rfl (oc_cons (row_one (hS.own _ (List.mem_of_getElem? (i := 2) rfl)).1) (oc_cons (row_one (hS.own _ (List.mem_of_getElem? (i := 3) rfl)).1) (oc_cons (row_one (hS.own _ (List.mem_of_getElem? (i := 1) rfl)).1) oc_nil))) rfl rfl) ?_
      clear hF; intro a hF
      refine gQ 14 rfl rfl hF hS rfl (ef_storeW ty26 0 rfl rfl rfl rfl bQ (oc_cons (row_one (hS.own _ (List.mem_of_getElem? (i := 2) rfl)).1) (oc_cons (row_one (hS.own _ (List.mem_of_getElem? (i := 3) rfl)).1) (oc_cons (row_one (hS.own _ (List.mem_of_getElem? (i := 1) rfl)).1) oc_nil))) bQ) ?_
      clear hF hS; rintro _ _ _ a w ⟨rfl, rfl, rfl⟩ hF hS
      refine ⟨⟨iQ, iQ, iQ, iQ, iQ, iQ, iQ, trivial⟩, ?_⟩
      exact goW_done kQ (j7_mk v_1_0 v_1_3 v_1_4 v_1_7 v_1_8 v_1_11 b_1_13 (trivial) (hF.sub (L' := [(1, _), (2, _), (6, _), (7, _)]) ⟨rfl, rfl, rfl, rfl, trivial⟩) (hS.perm (.cons _ (.cons _ (.swap _ _ _)))))
    ·refine stepW_ef _ rfl rfl hF hS rfl (ef_allocA ty26) ?_
     clear hF hS; rintro _ _ _ a w ⟨b_1_13, rfl, rfl, rfl⟩ hF hS
     refine ⟨⟨.inr (hS.k1 (sQ.n.n.n.n)), .inr hS.k0, .inr (hS.k1 (sQ.n.n.n.n)), .inr hS.k0, .inr (hS.k1 (sQ.n.n.n.n)), .inr hS.k0, trivial⟩, ?_⟩
     refine goW_fork [3, 8] kQ rfl ⟨?_, ?_, trivial⟩
     ·refine stepW_ef _ rfl rfl hF hS rfl (ef_append ty23 ty83 1 rfl rfl rfl (src_slC ty23 hxn zin0 (by decide)) bQ rfl (by decide)) ?_
      clear hF hS; rintro v_1_3 _ _ a w ⟨rfl, rfl⟩ hF hS
      refine ⟨⟨.inr (hS.k1 (sQ.n.n.n.n)), .inr hS.k0, .inr (hS.k1 (sQ.n.n.n.n)), .inr hS.k0, iQ, iQ, trivial⟩, ?_⟩
      refine goW_fork [7, 8] kQ rfl ⟨?_, ?_, trivial⟩
      ·refine stepW_ef _ rfl rfl hF hS rfl (ef_append ty22 ty3 2 rfl rfl rfl (src_slV ty22 hxs zin0) bQ rfl (by decide)) ?_
       clear hF hS; rintro v_1_7 _ _ a w ⟨rfl, rfl⟩ hF hS
       refine ⟨⟨.inr (hS.k1 (sQ.n.n.n.n)), .inr hS.k0, iQ, iQ, iQ, iQ, trivial⟩, ?_⟩
       refine gQ 8 rfl rfl hF hS rfl (ef_bslice0 ty24 ty4) ?_
       clear hF hS; rintro v_1_8 _ _ a w ⟨rfl, rfl⟩ hF hS
       refine ⟨⟨.inr (hS.k1 (sQ.n.n.n.n.n)), .inr hS.k0, iQ, iQ, iQ, iQ, trivial⟩, ?_⟩
       refine gQ 11 rfl rfl hF hS rfl (ef_append ty24 ty4 0 rfl rfl rfl (src_slV ty24 hxb zin0) bQ rfl (by decide)) ?_
       clear hF hS; rintro v_1_11 _ _ a w ⟨rfl, rfl⟩ hF hS
       refine ⟨⟨iQ, iQ, iQ, iQ, iQ, iQ, trivial⟩, ?_⟩
       refine goW_take 12 _ rfl kQ rfl hF (hS.keep sQ (zQ.k.k.n.k)) (q_buildS1 ty26 3 kQ rfl rfl (oc_cons (row_one (hS.own _ (List.mem_of_getElem? (i := 2) rfl)).1) (oc_cons (row_one (hS.own _ (List.mem_of_getElem? (i := 3) rfl)).1) (oc_cons (row_one (hS.own _ (List.mem_of_getElem? (i := 0) rfl)).1) oc_nil))) rfl rfl) ?_
       clear hF; intro a hF
       refine gQ 14 rfl rfl hF hS rfl (ef_storeW ty26 1 rfl rfl rfl rfl bQ (oc_cons (row_one (hS.own _ (List.mem_of_getElem? (i := 2) rfl)).1) (oc_cons (row_one (hS.own _ (List.mem_of_getElem? (i := 3) rfl)).1) (oc_cons (row_one (hS.own _ (List.mem_of_getElem? (i := 0) rfl)).1) oc_nil))) bQ) ?_
       clear hF hS; rintro _ _ _ a w ⟨rfl, rfl, rfl⟩ hF hS
       refine ⟨⟨iQ, iQ, iQ, iQ, iQ, iQ, iQ, trivial⟩, ?_⟩
       exact goW_done kQ (j7_mk v_1_0 v_1_3 v_1_4 v_1_7 v_1_8 v_1_11 b_1_13 (trivial) (hF.sub (L' := [(1, _), (2, _), (6, _), (7, _)]) ⟨rfl, rfl, rfl, rfl, trivial⟩) ((hS.perm (.swap _ _ _)).perm (.cons _ (.cons _ (.swap _ _ _)))))
      ·refine stepW_ef _ rfl rfl hF hS rfl (ef_bslice0 ty24 ty4) ?_
       clear hF hS; rintro v_1_8 _ _ a w ⟨rfl, rfl⟩ hF hS
       refine ⟨⟨.inr (hS.k1 (sQ.n.n.n.n.n)), .inr hS.k0, .inr (hS.k1 (sQ.n.n.n.n.n)), .inr hS.k0, iQ, iQ, trivial⟩, ?_⟩
       refine gQ 7 rfl rfl hF hS rfl (ef_append ty22 ty3 3 rfl rfl rfl (src_slV ty22 hxs zin0) bQ rfl (by decide)) ?_
       clear hF hS; rintro v_1_7 _ _ a w ⟨rfl, rfl⟩ hF hS
       refine ⟨⟨.inr (hS.k1 (sQ.n.n.n.n.n)), .inr hS.k0, iQ, iQ, iQ, iQ, trivial⟩, ?_⟩
       refine gQ 11 rfl rfl hF hS rfl (ef_append ty24 ty4 0 rfl rfl rfl (src_slV ty24 hxb zin0) bQ rfl (by decide)) ?_
       clear hF hS; rintro v_1_11 _ _ a w ⟨rfl, rfl⟩ hF hS
       refine ⟨⟨iQ, iQ, iQ, iQ, iQ, iQ, trivial⟩, ?_⟩
       refine goW_take 12 _ rfl kQ rfl hF (hS.keep sQ (zQ.k.k.n.k)) (q_buildS1 ty26 3 kQ rfl rfl (oc_cons (row_one (hS.own _ (List.mem_of_getElem? (i := 2) rfl)).1) (oc_cons (row_one (hS.own _ (List.mem_of_getElem? (i := 3) rfl)).1) (oc_cons (row_one (hS.own _ (List.mem_of_getElem? (i := 0) rfl)).1) oc_nil))) rfl rfl) ?_
       clear hF; intro a hF
       refine gQ 14 rfl rfl hF hS rfl (ef_storeW ty26 1 rfl rfl rfl rfl bQ (oc_cons (row_one (hS.own _ (List.mem_of_getElem? (i := 2) rfl)).1) (oc_cons (row_one (hS.own _ (List.mem_of_getElem? (i := 3) rfl)).1) (oc_cons (row_one (hS.own _ (List.mem_of_getElem? (i := 0) rfl)).1) oc_nil))) bQ) ?_
       clear hF hS; rintro _ _ _ a w ⟨rfl, rfl, rfl⟩ hF hS
       refine ⟨⟨iQ, iQ, iQ, iQ, iQ, iQ, iQ, trivial⟩, ?_⟩
       exact goW_done kQ (j7_mk v_1_0 v_1_3 v_1_4 v_1_7 v_1_8 v_1_11 b_1_13 (trivial) (hF.sub (L' := [(1, _), (2, _), (6, _), (7, _)]) ⟨rfl, rfl, rfl, rfl, trivial⟩) ((hS.perm (.swap _ _ _)).perm (.cons _ (.cons _ (.swap _ _ _)))))
     ·refine stepW_ef _ rfl rfl hF hS rfl (ef_bslice0 ty24 ty4) ?_
      clear hF hS; rintro v_1_8 _ _ a w ⟨rfl, rfl⟩ hF hS
      refine ⟨⟨.inr (hS.k1 (sQ.n.n.n.n.n)), .inr hS.k0, .inr (hS.k1 (sQ.n.n.n.n.n)), .inr hS.k0, .inr (hS.k1 (sQ.n.n.n.n.n)), .inr hS.k0, trivial⟩, ?_⟩
      refine gQ 3 rfl rfl hF hS rfl (ef_append ty23 ty83 2 rfl rfl rfl (src_slC ty23 hxn zin0 (by decide)) bQ rfl (by decide)) ?_
      clear hF hS; rintro v_1_3 _ _ a w ⟨rfl, rfl⟩ hF hS
      refine ⟨⟨.inr (hS.k1 (sQ.n.n.n.n.n)), .inr hS.k0, .inr (hS.k1 (sQ.n.n.n.n.n)), .inr hS.k0, iQ, iQ, trivial⟩, ?_⟩
      refine gQ 7 rfl rfl hF hS rfl (ef_append ty22 ty3 3 rfl rfl rfl (src_slV ty22 hxs zin0) bQ rfl (by decide)) ?_
      clear hF hS; rintro v_1_7 _ _ a w ⟨rfl, rfl⟩ hF hS
      refine ⟨⟨.inr (hS.k1 (sQ.n.n.n.n.n)), .inr hS.k0, iQ, iQ, iQ, iQ, trivial⟩, ?_⟩
      refine gQ 11 rfl rfl hF hS rfl (ef_append ty24 ty4 0 rfl rfl rfl (src_slV ty24 hxb zin0) bQ rfl (by decide)) ?_
      clear hF hS; rintro v_1_11 _ _ a w ⟨rfl, rfl⟩ hF hS
      refine ⟨⟨iQ, iQ, iQ, iQ, iQ, iQ, trivial⟩, ?_⟩
      refine goW_take 12 _ rfl kQ rfl hF (hS.keep sQ (zQ.k.k.n.k)) (q_buildS1 ty26 3 kQ rfl rfl (oc_cons (row_one (hS.own _ (List.mem_of_getElem? (i := 2) rfl)).1) (oc_cons (row_one (hS.own _ (List.mem_of_getElem? (i := 3) rfl)).1) (oc_cons (row_one (hS.own _ (List.mem_of_getElem? (i := 0) rfl)).1) oc_nil))) rfl rfl) ?_
      clear hF; intro a hF
      refine gQ 14 rfl rfl hF hS rfl (ef_storeW ty26 1 rfl rfl rfl rfl bQ (oc_cons (row_one (hS.own _ (List.mem_of_getElem? (i := 2) rfl)).1) (oc_cons (row_one (hS.own _ (List.mem_of_getElem? (i := 3) rfl)).1) (oc_cons (row_one (hS.own _ (List.mem_of_getElem? (i := 0) rfl)).1) oc_nil))) bQ) ?_
      clear hF hS; rintro _ _ _ a w ⟨rfl, rfl, rfl⟩ hF hS
      refine ⟨⟨iQ, iQ, iQ, iQ, iQ, iQ, iQ, trivial⟩, ?_⟩
      exact goW_done kQ (j7_mk v_1_0 v_1_3 v_1_4 v_1_7 v_1_8 v_1_11 b_1_13 (trivial) (hF.sub (L' := [(1, _), (2, _), (6, _), (7, _)]) ⟨rfl, rfl, rfl, rfl, trivial⟩) ((hS.perm (.swap _ _ _)).perm (.cons _ (.cons _ (.swap _ _ _)))))
   ·refine stepW_ef _ rfl rfl hF hS rfl (ef_bslice0 ty24 ty4) ?_
    clear hF hS; rintro v_1_8 _ _ a w ⟨rfl, rfl⟩ hF hS
    refine ⟨⟨.inr (hS.k1 (sQ.n.n.n)), .inr hS.k0, .inr (hS.k1 (sQ.n.n.n)), .inr hS.k0, .inr (hS.k1 (sQ.n.n.n)), .inr hS.k0, trivial⟩, ?_⟩
    refine goW_fork [0, 13] kQ rfl ⟨?_, ?_, trivial⟩
    ·refine stepW_ef _ rfl rfl hF hS rfl (ef_bslice0 ty23 ty83) ?_
     clear hF hS; rintro v_1_0 _ _ a w ⟨rfl, rfl⟩ hF hS
     refine ⟨⟨.inr (hS.k1 (sQ.n.n.n.n)), .inr hS.k0, .inr (hS.k1 (sQ.n.n.n.n)), .inr hS.k0, .inr (hS.k1 (sQ.n.n.n.n)), .inr hS.k0, trivial⟩, ?_⟩
     refine goW_fork [3, 13] kQ rfl ⟨?_, ?_, trivial⟩
     ·refine stepW_ef _ rfl rfl hF hS rfl (ef_append ty23 ty83 0 rfl rfl rfl (src_slC ty23 hxn zin0 (by decide)) bQ rfl (by decide)) ?_
      clear hF hS; rintro v_1_3 _ _ a w ⟨rfl, rfl⟩ hF hS
      refine ⟨⟨.inr (hS.k1 (sQ.n.n.n.n)), .inr hS.k0, .inr (hS.k1 (sQ.n.n.n.n)), .inr hS.k0, iQ, iQ, trivial⟩, ?_⟩
      refine goW_fork [7, 13] kQ rfl ⟨?_, ?_, trivial⟩
      ·refine stepW_ef _ rfl rfl hF hS rfl (ef_append ty22 ty3 2 rfl rfl rfl (src_slV ty22 hxs zin0) bQ rfl (by decide)) ?_
       clear hF hS; rintro v_1_7 _ _ a w ⟨rfl, rfl⟩ hF hS
       refine ⟨⟨.inr (hS.k1 (sQ.n.n.n.n)), .inr hS.k0, iQ, iQ, iQ, iQ, trivial⟩, ?_⟩
       refine goW_fork [11, 13] kQ rfl ⟨?_, ?_, trivial⟩
       ·refine stepW_ef _ rfl rfl hF hS rfl (ef_append ty24 ty4 1 rfl rfl rfl (src_slV ty24 hxb zin0) bQ rfl (by decide)) ?_
        clear hF hS; rintro v_1_11 _ _ a w ⟨rfl, rfl⟩ hF hS
        refine ⟨⟨iQ, iQ, iQ, iQ, iQ, iQ, trivial⟩, ?_⟩
        refine goW_take 12 _ rfl kQ rfl hF (hS.keep sQ (zQ.k.k.k)) (q_buildS1 ty26 3 kQ rfl rfl (oc_cons (row_one (hS.own _ (List.mem_of_getElem? (i := 0) rfl)).1) (oc_cons (row_one (hS.own _ (List.mem_of_getElem? (i := 2) rfl)).1) (oc_cons (row_one (hS.own _ (List.mem_of_getElem? (i := 1) rfl)).1) oc_nil))) rfl rfl) ?_
        clear hF; intro a hF
        refine gQ 13 rfl rfl hF hS rfl (ef_allocA ty26) ?_
        clear hF hS; rintro _ _ _ a w ⟨b_1_13, rfl, rfl, rfl⟩ hF hS
        refine ⟨⟨.inr (hS.k1 (zQ.k.k.k.n)), iQ, iQ, iQ, iQ, iQ, iQ, trivial⟩, ?_⟩
        refine gQ 14 rfl rfl hF hS rfl (ef_storeW ty26 0 rfl rfl rfl rfl bQ (oc_cons (row_one (hS.own _ (List.mem_of_getElem? (i := 1) rfl)).1) (oc_cons (row_one (hS.own _ (List.mem_of_getElem? (i := 3) rfl)).1) (oc_cons (row_one (hS.own _ (List.mem_of_getElem? (i := 2) rfl)).1) oc_nil))) bQ) ?_
        clear hF hS; rintro _ _ _ a w ⟨rfl, rfl, rfl⟩ hF hS
        refine ⟨⟨iQ, iQ, iQ, iQ, iQ, iQ, iQ, trivial⟩, ?_⟩
        exact goW_done kQ (j7_mk v_1_0 v_1_3 v_1_4 v_1_7 v_1_8 v_1_11 b_1_13 (trivial) (hF.sub (L' := [(1, _), (2, _), (6, _), (7, _)]) ⟨rfl, rfl, rfl, rfl, trivial⟩) ((hS.perm (.cons _ (.swap _ _ _))).perm (.cons _ (.cons _ (.swap _ _ _)))))
       ·refine stepW_ef _ rfl rfl hF hS rfl (ef_allocA ty26) ?_
        clear hF hS; rintro _ _ _ a w ⟨b_1_13, rfl, rfl, rfl⟩ hF hS
        refine ⟨⟨.inr (hS.k1 (sQ.n.n.n.n.n)), .inr hS.k0, iQ, iQ, iQ, iQ, trivial⟩, ?_⟩
        refine gQ 11 rfl rfl hF hS rfl (ef_append ty24 ty4 2 rfl rfl rfl (src_slV ty24 hxb zin0) bQ rfl (by decide)) ?_
        clear hF hS; rintro v_1_11 _ _ a w ⟨rfl, rfl⟩ hF hS
        refine ⟨⟨iQ, iQ, iQ, iQ, iQ, iQ, trivial⟩, ?_⟩
        refine goW_take 12 _ rfl kQ rfl hF (hS.keep sQ (zQ.k.k.k.n)) (q_buildS1 ty26 3 kQ rfl rfl (oc_cons (row_one (hS.own _ (List.mem_of_getElem? (i := 1) rfl)).1) (oc_cons (row_one (hS.own _ (List.mem_of_getElem? (i := 3) rfl)).1) (oc_cons (row_one (hS.own _ (List.mem_of_getElem? (i := 2) rfl)).1) oc_nil))) rfl rfl) ?_
        clear hF; intro a hF
        refine gQ 14 rfl rfl hF hS rfl (ef_storeW ty26 0 rfl rfl rfl rfl bQ (oc_cons (row_one (hS.own _ (List.mem_of_getElem? (i := 1) rfl)).1) (oc_cons (row_one (hS.own _ (List.mem_of_getElem? (i := 3) rfl)).1) (oc_cons (row_one (hS.own _ (List.mem_of_getElem? (i := 2) rfl)).1) oc_nil))) bQ) ?_
        clear hF hS; rintro _ _ _ a w ⟨rfl, rfl, rfl⟩ hF hS
        refine ⟨⟨iQ, iQ, iQ, iQ, iQ, iQ, iQ, trivial⟩, ?_⟩
        exact goW_done kQ (j7_mk v_1_0 v_1_3 v_1_4 v_1_7 v_1_8 v_1_11 b_1_13 (trivial) (hF.sub (L' := [(1, _), (2, _), (6, _), (7, _)]) ⟨rfl, rfl, rfl, rfl, trivial⟩) ((hS.perm (.cons _ (.swap _ _ _))).perm (.cons _ (.cons _ (.swap _ _ _)))))
      ·refine stepW_ef _ rfl rfl hF hS rfl (ef_allocA ty26) ?_
       clear hF hS; rintro _ _ _ a w ⟨b_1_13, rfl, rfl, rfl⟩ hF hS
       refine ⟨⟨.inr (hS.k1 (sQ.n.n.n.n.n)), .inr hS.k0, .inr (hS.k1 (sQ.n.n.n.n.n)), .inr hS.k0, iQ, iQ, trivial⟩, ?_⟩
       refine gQ 7 rfl rfl hF hS rfl (ef_append ty22 ty3 3 rfl rfl rfl (src_slV ty22 hxs zin0) bQ rfl (by decide)) ?_
       clear hF hS; rintro v_1_7 _ _ a w ⟨rfl, rfl⟩ hF hS
       refine ⟨⟨.inr (hS.k1 (sQ.n.n.n.n.n)), .inr hS.k0, iQ, iQ, iQ, iQ, trivial⟩, ?_⟩
       refine gQ 11 rfl rfl hF hS rfl (ef_append ty24 ty4 2 rfl rfl rfl (src_slV ty24 hxb zin0) bQ rfl (by decide)) ?_
       clear hF hS; rintro v_1_11 _ _ a w ⟨rfl, rfl⟩ hF hS
       refine ⟨⟨iQ, iQ, iQ, iQ, iQ, iQ, trivial⟩, ?_⟩
       refine goW_take 12 _ rfl kQ rfl hF (hS.keep sQ (zQ.k.k.k.n)) (q_buildS1 ty26 3 kQ rfl rfl (oc_cons (row_one (hS.own _ (List.mem_of_getElem? (i := 1) rfl)).1) (oc_cons (row_one (hS.own _ (List.mem_of_getElem? (i := 3) rfl)).1) (oc_cons (row_one (hS.own _ (List.mem_of_getElem? (i := 2) rfl)).1) oc_nil))) rfl rfl) ?_
       clear hF; intro a hF
       refine gQ 14 rfl rfl hF hS rfl (ef_storeW ty26 0 rfl rfl rfl rfl bQ (oc_cons (row_one (hS.own _ (List.mem_of_getElem? (i := 1) rfl)).1) (oc_cons (row_one (hS.own _ (List.mem_of_getElem? (i := 3) rfl)).1) (oc_cons (row_one (hS.own _ (List.mem_of_getElem? (i := 2) rfl)).1) oc_nil))) bQ) ?_
       clear hF hS; rintro _ _ _ a w ⟨rfl, rfl, rfl⟩ hF hS
       refine ⟨⟨iQ, iQ, iQ, iQ, iQ, iQ, iQ, trivial⟩, ?_⟩
       exact goW_done kQ (j7_mk v_1_0 v_1_3 v_1_4 v_1_7 v_1_8 v_1_11 b_1_13 (trivial) (hF.sub (L' := [(1, _), (2, _), (6, _), (7, _)]) ⟨rfl, rfl, rfl, rfl, trivial⟩) ((hS.perm (.cons _ (.swap _ _ _))).perm (.cons _ (.cons _ (.swap _ _ _)))))
     ·refine stepW_ef _ rfl rfl hF hS rfl (ef_allocA ty26) ?_
      clear hF hS; rintro _ _ _ a w ⟨b_1_13, rfl, rfl, rfl⟩ hF hS
      refine ⟨⟨.inr (hS.k1 (sQ.n.n.n.n.n)), .inr hS.k0, .inr (hS.k1 (sQ.n.n.n.n.n)), .inr hS.k0, .inr (hS.k1 (sQ.n.n.n.n.n)), .inr hS.k0, trivial⟩, ?_⟩
      refine gQ 3 rfl rfl hF hS rfl (ef_append ty23 ty83 1 rfl rfl rfl (src_slC ty23 hxn zin0 (by decide)) bQ rfl (by decide)) ?_
      clear hF hS; rintro v_1_3 _ _ a w ⟨rfl, rfl⟩ hF hS
      refine ⟨⟨.inr (hS.k1 (sQ.n.n.n.n.n)), .inr hS.k0, .inr (hS.k1 (sQ.n.n.n.n.n)), .inr hS.k0, iQ, iQ, trivial⟩, ?_⟩
      refine gQ 7 rfl rfl hF hS rfl (ef_append ty22 ty3 3 rfl rfl rfl (src_slV ty22 hxs zin0) bQ rfl (by decide)) ?_
      clear hF hS; rintro v_1_7 _ _ a w ⟨rfl, rfl⟩ hF hS
      refine ⟨⟨.inr (hS.k1 (sQ.n.n.n.n.n)), .inr hS.k0, iQ, iQ, iQ, iQ, trivial⟩, ?_⟩
      refine gQ 11 rfl rfl hF hS rfl (ef_append ty24 ty4 2 rfl rfl rfl (src_slV ty24 hxb zin0) bQ rfl (by decide)) ?_
      clear hF hS; rintro v_1_11 _ _ a w ⟨rfl, rfl⟩ hF hS
      refine ⟨⟨iQ, iQ, iQ, iQ, iQ, iQ, trivial⟩, ?_⟩
      refine goW_take 12 _ rfl kQ rfl hF (hS.keep sQ (zQ.k.k.k.n)) (q_buildS1 ty26 3 kQ rfl rfl (oc_cons (row_one (hS.own _ (List.mem_of_getElem? (i := 1) rfl)).1) (oc_cons (row_one (hS.own _ (List.mem_of_getElem? (i := 3) rfl)).1) (oc_cons (row_one (hS.own _ (List.mem_of_getElem? (i := 2) rfl)).1) oc_nil))) rfl rfl) ?_
      clear hF; intro a hF
      refine gQ 14 rfl rfl hF hS rfl (ef_storeW ty26 0 rfl rfl rfl rfl bQ (oc_cons (row_one (hS.own _ (List.mem_of_getElem? (i := 1) rfl)).1) (oc_cons (row_one (hS.own _ (List.mem_of_getElem? (i := 3) rfl)).1) (oc_cons (row_one (hS.own _ (List.mem_of_getElem? (i := 2) rfl)).1) oc_nil))) bQ) ?_
      clear hF hS; rintro _ _ _ a w ⟨rfl, rfl, rfl⟩ hF hS
      refine ⟨⟨iQ, iQ, iQ, iQ, iQ, iQ, iQ, trivial⟩, ?_⟩
      exact goW_done kQ (j7_mk v_1_0 v_1_3 v_1_4 v_1_7 v_1_8 v_1_11 b_1_13 (trivial) (hF.sub (L' := [(1, _), (2, _), (6, _), (7, _)]) ⟨rfl, rfl, rfl, rfl, trivial⟩) ((hS.perm (.cons _ (.swap _ _ _))).perm (.cons _ (.cons _ (.swap _ _ _)))))
    ·refine stepW_ef _ rfl rfl hF hS rfl (ef_allocA ty26) ?_
     clear hF hS; rintro _ _ _ a w ⟨b_1_13, rfl, rfl, rfl⟩ hF hS
     refine ⟨⟨.inr (hS.k1 (sQ.n.n.n.n)), .inr hS.k0, .inr (hS.k1 (sQ.n.n.n.n)), .inr hS.k0, .inr (hS.k1 (sQ.n.n.n.n)), .inr hS.k0, trivial⟩, ?_⟩
     refine gQ 0 rfl rfl hF hS rfl (ef_bslice0 ty23 ty83) ?_
     clear hF hS; rintro v_1_0 _ _ a w ⟨rfl, rfl⟩ hF hS
     refine ⟨⟨.inr (hS.k1 (sQ.n.n.n.n.n)), .inr hS.k0, .inr (hS.k1 (sQ.n.n.n.n.n)), .inr hS.k0, .inr (hS.k1 (sQ.n.n.n.n.n)), .inr hS.k0, trivial⟩, ?_⟩
     refine gQ 3 rfl rfl hF hS rfl (ef_append ty23 ty83 0 rfl rfl rfl (src_slC ty23 hxn zin0 (by decide)) bQ rfl (by decide)) ?_
     clear hF hS; rintro v_1_3 _ _ a w ⟨rfl, rfl⟩ hF hS
     refine ⟨⟨.inr (hS.k1 (sQ.n.n.n.n.n)), .inr hS.k0, .inr (hS.k1 (sQ.n.n.n.n.n)), .inr hS.k0, iQ, iQ, trivial⟩, ?_⟩
     refine gQ 7 rfl rfl hF hS rfl (ef_append ty22 ty3 3 rfl rfl rfl (src_slV ty22 hxs zin0) bQ rfl (by decide)) ?_
     clear hF hS; rintro v_1_7 _ _ a w ⟨rfl, rfl⟩ hF hS
     refine ⟨⟨.inr (hS.k1 (sQ.n.n.n.n.n)), .inr hS.k0, iQ, iQ, iQ, iQ, trivial⟩, ?_⟩
     refine gQ 11 rfl rfl hF hS rfl (ef_append ty24 ty4 2 rfl rfl rfl (src_slV ty24 hxb zin0) bQ rfl (by decide)) ?_
     clear hF hS; rintro v_1_11 _ _ a w ⟨rfl, rfl⟩ hF hS
     refine ⟨⟨iQ, iQ, iQ, iQ, iQ, iQ, trivial⟩, ?_⟩
     refine goW_take 12 _ rfl kQ rfl hF (hS.keep sQ (zQ.k.k.n.k)) (q_buildS1 ty26 3 kQ rfl rfl (oc_cons (row_one (hS.own _ (List.mem_of_getElem? (i := 0) rfl)).1) (oc_cons (row_one (hS.own _ (List.mem_of_getElem? (i := 3) rfl)).1) (oc_cons (row_one (hS.own _ (List.mem_of_getElem? (i := 2) rfl)).1) oc_nil))) rfl rfl) ?_
     clear hF; intro a hF
     refine gQ 14 rfl rfl hF hS rfl (ef_storeW ty26 1 rfl rfl rfl rfl bQ (oc_cons (row_one (hS.own _ (List.mem_of_getElem? (i := 0) rfl)).1) (oc_cons (row_one (hS.own _ (List.mem_of_getElem? (i := 3) rfl)).1) (oc_cons (row_one (hS.own _ (List.mem_of_getElem? (i := 2) rfl)).1) oc_nil))) bQ) ?_
     clear hF hS; rintro _ _ _ a w ⟨rfl, rfl, rfl⟩ hF hS
     refine ⟨⟨iQ, iQ, iQ, iQ, iQ, iQ, iQ, trivial⟩, ?_⟩
     exact goW_done kQ (j7_mk v_1_0 v_1_3 v_1_4 v_1_7 v_1_8 v_1_11 b_1_13 (trivial) (hF.sub (L' := [(1, _), (2, _), (6, _), (7, _)]) ⟨rfl, rfl, rfl, rfl, trivial⟩) (((hS.perm (.swap _ _ _)).perm (.cons _ (.swap _ _ _))).perm (.cons _ (.cons _ (.swap _ _ _)))))
   ·refine stepW_ef _ rfl rfl hF hS rfl (ef_allocA ty26) ?_
    clear hF hS; rintro _ _ _ a w ⟨b_1_13, rfl, rfl, rfl⟩ hF hS
    refine ⟨⟨.inr (hS.k1 (sQ.n.n.n)), .inr hS.k0, .inr (hS.k1 (sQ.n.n.n)), .inr hS.k0, .inr (hS.k1 (sQ.n.n.n)), .inr hS.k0, trivial⟩, ?_⟩
    refine goW_fork [0, 8] kQ rfl ⟨?_, ?_, trivial⟩
    ·refine stepW_ef _ rfl rfl hF hS rfl (ef_bslice0 ty23 ty83) ?_
     clear hF hS; rintro v_1_0 _ _ a w ⟨rfl, rfl⟩ hF hS
     refine ⟨⟨.inr (hS.k1 (sQ.n.n.n.n)), .inr hS.k0, .inr (hS.k1 (sQ.n.n.n.n)), .inr hS.k0, .inr (hS.k1 (sQ.n.n.n.n)), .inr hS.k0, trivial⟩, ?_⟩
     refine goW_fork [3, 8] kQ rfl ⟨?_, ?_, trivial⟩
     ·refine stepW_ef _ rfl rfl hF hS rfl (ef_append ty23 ty83 0 rfl rfl rfl (src_slC ty23 hxn zin0 (by decide)) bQ rfl (by decide)) ?_
      clear hF hS; rintro v_1_3 _ _ a w ⟨rfl, rfl⟩ hF hS
      refine ⟨⟨.inr (hS.k1 (sQ.n.n.n.n)), .inr hS.k0, .inr (hS.k1 (sQ.n.n.n.n)), .inr hS.k0, iQ, iQ, trivial⟩, ?_⟩
      refine goW_fork [7, 8] kQ rfl ⟨?_, ?_, trivial⟩
      ·refine stepW_ef _ rfl rfl hF hS rfl (ef_append ty22 ty3 2 rfl rfl rfl (src_slV ty22 hxs zin0) bQ rfl (by decide)) ?_
       clear hF hS; rintro v_1_7 _ _ a w ⟨rfl, rfl⟩ hF hS
       refine ⟨⟨.inr (hS.k1 (sQ.n.n.n.n)), .inr hS.k0, iQ, iQ, iQ, iQ, trivial⟩, ?_⟩
       refine gQ 8 rfl rfl hF hS rfl (ef_bslice0 ty24 ty4) ?_
       clear hF hS; rintro v_1_8 _ _ a w ⟨rfl, rfl⟩ hF hS
       refine ⟨⟨.inr (hS.k1 (sQ.n.n.n.n.n)), .inr hS.k0, iQ, iQ, iQ, iQ, trivial⟩, ?_⟩
       refine gQ 11 rfl rfl hF hS rfl (ef_append ty24 ty4 0 rfl rfl rfl (src_slV ty24 hxb zin0) bQ rfl (by decide)) ?_
       clear hF hS; rintro v_1_11 _ _ a w ⟨rfl, rfl⟩ hF hS
       refine ⟨⟨iQ, iQ, iQ, iQ, iQ, iQ, trivial⟩, ?_⟩
       refine goW_take 12 _ rfl kQ rfl hF (hS.keep sQ (zQ.k.n.k.k)) (q_buildS1 ty26 3 kQ rfl rfl (oc_cons (row_one (hS.own _ (List.mem_of_getElem? (i := 1) rfl)).1) (oc_cons (row_one (hS.own _ (List.mem_of_getElem? (i := 3) rfl)).1) (oc_cons (row_one (hS.own _ (List.mem_of_getElem? (i := 0) rfl)).1) oc_nil))) rfl rfl) ?_
       clear hF; intro a hF
       refine gQ 14 rfl rfl hF hS rfl (ef_storeW ty26 2 rfl rfl rfl rfl bQ (oc_cons (row_one (hS.own _ (List.mem_of_getElem? (i := 1) rfl)).1) (oc_cons (row_one (hS.own _ (List.mem_of_getElem? (i := 3) rfl)).1) (oc_cons (row_one (hS.own _ (List.mem_of_getElem? (i := 0) rfl)).1) oc_nil))) bQ) ?_
       clear hF hS; rintro _ _ _ a w ⟨rfl, rfl, rfl⟩ hF hS
       refine ⟨⟨iQ, iQ, iQ, iQ, iQ, iQ, iQ, trivial⟩, ?_⟩
       exact goW_done kQ (j7_mk v_1_0 v_1_3 v_1_4 v_1_7 v_1_8 v_1_11 b_1_13 (trivial) (hF.sub (L' := [(1, _), (2, _), (6, _), (7, _)]) ⟨rfl, rfl, rfl, rfl, trivial⟩) (((hS.perm (.cons _ (.swap _ _ _))).perm (.swap _ _ _)).perm (.cons _ (.cons _ (.swap _ _ _)))))
      ·refine stepW_ef _ rfl rfl hF hS rfl (ef_bslice0 ty24 ty4) ?_
       clear hF hS; rintro v_1_8 _ _ a w ⟨rfl, rfl⟩ hF hS
       refine ⟨⟨.inr (hS.k1 (sQ.n.n.n.n.n)), .inr hS.k0, .inr (hS.k1 (sQ.n.n.n.n.n)), .inr hS.k0, iQ, iQ, trivial⟩, ?_⟩
       refine gQ 7 rfl rfl hF hS rfl (ef_append ty22 ty3 3 rfl rfl rfl (src_slV ty22 hxs zin0) bQ rfl (by decide)) ?_
       clear hF hS; rintro v_1_7 _ _ a w ⟨rfl, rfl⟩ hF hS
       refine ⟨⟨.inr (hS.k1 (sQ.n.n.n.n.n)), .inr hS.k0, iQ, iQ, iQ, iQ, trivial⟩, ?_⟩
       refine gQ 11 rfl rfl hF hS rfl (ef_append ty24 ty4 0 rfl rfl rfl (src_slV ty24 hxb zin0) bQ rfl (by decide)) ?_
       clear hF hS; rintro v_1_11 _ _ a w ⟨rfl, rfl⟩ hF hS
       refine ⟨⟨iQ, iQ, iQ, iQ, iQ, iQ, trivial⟩, ?_⟩
       refine goW_take 12 _ rfl kQ rfl hF (hS.keep sQ (zQ.k.n.k.k)) (q_buildS1 ty26 3 kQ rfl rfl (oc_cons (row_one (hS.own _ (List.mem_of_getElem? (i := 1) rfl)).1) (oc_cons (row_one (hS.own _ (List.mem_of_getElem? (i := 3) rfl)).1) (oc_cons (row_one (hS.own _ (List.mem_of_getElem? (i := 0) rfl)).1) oc_nil))) rfl rfl) ?_
       clear hF; intro a hF
       refine gQ 14 rfl rfl hF hS rfl (ef_storeW ty26 2 rfl rfl rfl rfl bQ (oc_cons (row_one (hS.own _ (List.mem_of_getElem? (i := 1) rfl)).1) (oc_cons (row_one (hS.own _ (List.mem_of_getElem? (i := 3) rfl)).1) (oc_cons (row_one (hS.own _ (List.mem_of_getElem? (i := 0) rfl)).1) oc_nil))) bQ) ?_
       clear hF hS; rintro _ _ _ a w ⟨rfl, rfl, rfl⟩ hF hS
       refine ⟨⟨iQ, iQ, iQ, iQ, iQ, iQ, iQ, trivial⟩, ?_⟩
       exact goW_done kQ (j7_mk v_1_0 v_1_3 v_1_4 v_1_7 v_1_8 v_1_11 b_1_13 (trivial) (hF.sub (L' := [(1, _), (2, _), (6, _), (7, _)]) ⟨rfl, rfl, rfl, rfl, trivial⟩) (((hS.perm (.cons _ (.swap _ _ _))).perm (.swap _ _ _)).perm (.cons _ (.cons _ (.swap _ _ _)))))
     ·refine stepW_ef _ rfl rfl hF hS rfl (ef_bslice0 ty24 ty4) ?_
      clear hF hS; rintro v_1_8 _ _ a w ⟨rfl, rfl⟩ hF hS
      refine ⟨⟨.inr (hS.k1 (sQ.n.n.n.n.n)), .inr hS.k0, .inr (hS.k1 (sQ.n.n.n.n.n)), .inr hS.k0, .inr (hS.k1 (sQ.n.n.n.n.n)), .inr hS.k0, trivial⟩, ?_⟩
      refine gQ 3 rfl rfl hF hS rfl (ef_append ty23 ty83 1 rfl rfl rfl (src_slC ty23 hxn zin0 (by decide)) bQ rfl (by decide)) ?_
      clear hF hS; rintro v_1_3 _ _ a w ⟨rfl, rfl⟩ hF hS
      refine ⟨⟨.inr (hS.k1 (sQ.n.n.n.n.n)), .inr hS.k0, .inr (hS.k1 (sQ.n.n.n.n.n)), .inr hS.k0, iQ, iQ, trivial⟩, ?_⟩
      refine gQ 7 rfl rfl hF hS rfl (ef_append ty22 ty3 3 rfl rfl rfl (src_slV ty22 hxs zin0) bQ rfl (by decide)) ?_
      clear hF hS; rintro v_1_7 _ _ a w ⟨rfl, rfl⟩ hF hS
      refine ⟨⟨.inr (hS.k1 (sQ.n.n.n.n.n)), .inr hS.k0, iQ, iQ, iQ, iQ, trivial⟩, ?_⟩
      refine gQ 11 rfl rfl hF hS rfl (ef_append ty24 ty4 0 rfl rfl rfl (src_slV ty24 hxb zin0) bQ rfl (by decide)) ?_
      clear hF hS; rintro v_1_11 _ _ a w ⟨rfl, rfl⟩ hF hS
      refine ⟨⟨iQ, iQ, iQ, iQ, iQ, iQ, trivial⟩, ?_⟩
      refine goW_take 12 _ rfl kQ rfl hF (hS.keep sQ (zQ.k.n.k.k)) (q_buildS1 ty26 3 kQ rfl rfl (oc_cons (row_one (hS.own _ (List.mem_of_getElem? (i := 1) rfl)).1) (oc_cons (row_one (hS.own _ (List.mem_of_getElem? (i := 3) rfl)).1) (oc_cons (row_one (hS.own _ (List.mem_of_getElem? (i := 0) rfl)).1) oc_nil))) rfl rfl) ?_
      clear hF; intro a hF
      refine gQ 14 rfl rfl hF hS rfl (ef_storeW ty26 2 rfl rfl rfl rfl bQ (oc_cons (row_one (hS.own _ (List.mem_of_getElem? (i := 1) rfl)).1) (oc_cons (row_one (hS.own _ (List.mem_of_getElem? (i := 3) rfl)).1) (oc_cons (row_one (hS.own _ (List.mem_of_getElem? (i := 0) rfl)).1) oc_nil))) bQ) ?_
      clear hF hS; rintro _ _ _ a w ⟨rfl, rfl, rfl⟩ hF hS
      refine ⟨⟨iQ, iQ, iQ, iQ, iQ, iQ, iQ, trivial⟩, ?_⟩
      exact goW_done kQ (j7_mk v_1_0 v_1_3 v_1_4 v_1_7 v_1_8 v_1_11 b_1_13 (trivial) (hF.sub (L' := [(1, _), (2, _), (6, _), (7, _)]) ⟨rfl, rfl, rfl, rfl, trivial⟩) (((hS.perm (.cons _ (.swap _ _ _))).perm (.swap _ _ _)).perm (.cons _ (.cons _ (.swap _ _ _)))))
    ·refine stepW_ef _ rfl rfl hF hS rfl (ef_bslice0 ty24 ty4) ?_
     clear hF hS; rintro v_1_8 _ _ a w ⟨rfl, rfl⟩ hF hS
     refine ⟨⟨.inr (hS.k1 (sQ.n.n.n.n)), .inr hS.k0, .inr (hS.k1 (sQ.n.n.n.n)), .inr hS.k0, .inr (hS.k1 (sQ.n.n.n.n)), .inr hS.k0, trivial⟩, ?_⟩
     refine gQ 0 rfl rfl hF hS rfl (ef_bslice0 ty23 ty83) ?_
     clear hF hS; rintro v_1_0 _ _ a w ⟨rfl, rfl⟩ hF hS
     refine ⟨⟨.inr (hS.k1 (sQ.n.n.n.n.n)), .inr hS.k0, .inr (hS.k1 (sQ.n.n.n.n.n)), .inr hS.k0, .inr (hS.k1 (sQ.n.n.n.n.n)), .inr hS.k0, trivial⟩, ?_⟩
     refine gQ 3 rfl rfl hF hS rfl (ef_append ty23 ty83 0 rfl rfl rfl (src_slC ty23 hxn zin0 (by decide)) bQ rfl (by decide)) ?_
     clear hF hS; rintro v_1_3 _ _ a w ⟨rfl, rfl⟩ hF hS
     refine ⟨⟨.inr (hS.k1 (sQ.n.n.n.n.n)), .inr hS.k0, .inr (hS.k1 (sQ.n.n.n.n.n)), .inr hS.k0, iQ, iQ, trivial⟩, ?_⟩
     refine gQ 7 rfl rfl hF hS rfl (ef_append ty22 ty3 3 rfl rfl rfl (src_slV ty22 hxs zin0) bQ rfl (by decide)) ?_
     clear hF hS; rintro v_1_7 _ _ a w ⟨rfl, rfl⟩ hF hS
     refine ⟨⟨.inr (hS.k1 (sQ.n.n.n.n.n)), .inr hS.k0, iQ, iQ, iQ, iQ, trivial⟩, ?_⟩
     refine gQ 11 rfl rfl hF hS rfl (ef_append ty24 ty4 1 rfl rfl rfl (src_slV ty24 hxb zin0) bQ rfl (by decide)) ?_
     clear hF hS; rintro v_1_11 _ _ a w ⟨rfl, rfl⟩ hF hS
     refine ⟨⟨iQ, iQ, iQ, iQ, iQ, iQ, trivial⟩, ?_⟩
     refine goW_take 12 _ rfl kQ rfl hF (hS.keep sQ (zQ.k.n.k.k)) (q_buildS1 ty26 3 kQ rfl rfl (oc_cons (row_one (hS.own _ (List.mem_of_getElem? (i := 0) rfl)).1) (oc_cons (row_one (hS.own _ (List.mem_of_getElem? (i := 3) rfl)).1) (oc_cons (row_one (hS.own _ (List.mem_of_getElem? (i := 1) rfl)).1) oc_nil))) rfl rfl) ?_
     clear hF; intro a hF
     refine gQ 14 rfl rfl hF hS rfl (ef_storeW ty26 2 rfl rfl rfl rfl bQ (oc_cons (row_one (hS.own _ (List.mem_of_getElem? (i := 0) rfl)).1) (oc_cons (row_one (hS.own _ (List.mem_of_getElem? (i := 3) rfl)).1) (oc_cons (row_one (hS.own _ (List.mem_of_getElem? (i := 1) rfl)).1) oc_nil))) bQ) ?_
     clear hF hS; rintro _ _ _ a w ⟨rfl, rfl, rfl⟩ hF hS
     refine ⟨⟨iQ, iQ, iQ, iQ, iQ, iQ, iQ, trivial⟩, ?_⟩
     exact goW_done kQ (j7_mk v_1_0 v_1_3 v_1_4 v_1_7 v_1_8 v_1_11 b_1_13 (trivial) (hF.sub (L' := [(1, _), (2, _), (6, _), (7, _)]) ⟨rfl, rfl, rfl, rfl, trivial⟩) ((((hS.perm (.cons _ (.swap _ _ _))).perm (.swap _ _ _)).perm (.cons _ (.swap _ _ _))).perm (.cons _ (.cons _ (.swap _ _ _)))))
  ·refine stepW_ef _ rfl rfl hF hS rfl (ef_bslice0 ty24 ty4) ?_
   clear hF hS; rintro v_1_8 _ _ a w ⟨rfl, rfl⟩ hF hS
   refine ⟨⟨.inr (hS.k1 (sQ.n.n)), .inr hS.k0, .inr (hS.k1 (sQ.n.n)), .inr hS.k0, .inr (hS.k1 (sQ.n.n)), .inr hS.k0, trivial⟩, ?_⟩
   refine goW_fork [0, 4, 13] kQ rfl ⟨?_, ?_, ?_, trivial⟩
   ·refine stepW_ef _ rfl rfl hF hS rfl (ef_bslice0 ty23 ty83) ?_
    clear hF hS; rintro v_1_0 _ _ a w ⟨rfl, rfl⟩ hF hS
    refine ⟨⟨.inr (hS.k1 (sQ.n.n.n)), .inr hS.k0, .inr (hS.k1 (sQ.n.n.n)), .inr hS.k0, .inr (hS.k1 (sQ.n.n.n)), .inr hS.k0, trivial⟩, ?_⟩
    refine goW_fork [3, 4, 13] kQ rfl ⟨?_, ?_, ?_, trivial⟩
    ·refine stepW_ef _ rfl rfl hF hS rfl (ef_append ty23 ty83 0 rfl rfl rfl (src_slC ty23 hxn zin0 (by decide)) bQ rfl (by decide)) ?_
     clear hF hS; rintro v_1_3 _ _ a w ⟨rfl, rfl⟩ hF hS
     refine ⟨⟨.inr (hS.k1 (sQ.n.n.n)), .inr hS.k0, .inr (hS.k1 (sQ.n.n.n)), .inr hS.k0, iQ, iQ, trivial⟩, ?_⟩
     refine goW_fork [4, 13] kQ rfl ⟨?_, ?_, trivial⟩
     ·refine stepW_ef _ rfl rfl hF hS rfl (ef_bslice0 ty22 ty3) ?_
      clear hF hS; rintro v_1_4 _ _ a w ⟨rfl, rfl⟩ hF hS
      refine ⟨⟨.inr (hS.k1 (sQ.n.n.n.n)), .inr hS.k0, .inr (hS.k1 (sQ.n.n.n.n)), .inr hS.k0, iQ, iQ, trivial⟩, ?_⟩
      refine goW_fork [7, 13] kQ rfl ⟨?_, ?_, trivial⟩
      ·refine stepW_ef _ rfl rfl hF hS rfl (ef_append ty22 ty3 0 rfl rfl rfl (src_slV ty22 hxs zin0) bQ rfl (by decide)) ?_
       clear hF hS; rintro v_1_7 _ _ a w ⟨rfl, rfl⟩ hF hS
       refine ⟨⟨.inr (hS.k1 (sQ.n.n.n.n)), .inr hS.k0, iQ, iQ, iQ, iQ, trivial⟩, ?_⟩
       refine goW_fork [11, 13] kQ rfl ⟨?_, ?_, trivial⟩
       ·refine stepW_ef _ rfl rfl hF hS rfl (ef_append ty24 ty4 2 rfl rfl rfl (src_slV ty24 hxb zin0) bQ rfl (by decide)) ?_
        clear hF hS; rintro v_1_11 _ _ a w ⟨rfl, rfl⟩ hF hS
        refine ⟨⟨iQ, iQ, iQ, iQ, iQ, iQ, trivial⟩, ?_⟩
        refine goW_take 12 _ rfl kQ rfl hF (hS.keep sQ (zQ.k.k.k)) (q_buildS1 ty26 3 kQ rfl rfl (oc_cons (row_one (hS.own _ (List.mem_of_getElem? (i := 1) rfl)).1) (oc_cons (row_one (hS.own _ (List.mem_of_getElem? (i := 0) rfl)).1) (oc_cons (row_one (hS.own _ (List.mem_of_getElem? (i := 2) rfl)).1) oc_nil))) rfl rfl) ?_
        clear hF; intro a hF
        refine gQ 13 rfl rfl hF hS rfl (ef_allocA ty26) ?_
        clear hF hS; rintro _ _ _ a w ⟨b_1_13, rfl, rfl, rfl⟩ hF hS
        refine ⟨⟨.inr (hS.k1 (zQ.k.k.k.n)), iQ, iQ, iQ, iQ, iQ, iQ, trivial⟩, ?_⟩
        refine gQ 14 rfl rfl hF hS rfl (ef_storeW ty26 0 rfl rfl rfl rfl bQ (oc_cons (row_one (hS.own _ (List.mem_of_getElem? (i := 2) rfl)).1) (oc_cons (row_one (hS.own _ (List.mem_of_getElem? (i := 1) rfl)).1) (oc_cons (row_one (hS.own _ (List.mem_of_getElem? (i := 3) rfl)).1) oc_nil))) bQ) ?_
        clear hF hS; rintro _ _ _ a w ⟨rfl, rfl, rfl⟩ hF hS
        refine ⟨⟨iQ, iQ, iQ, iQ, iQ, iQ, iQ, trivial⟩, ?_⟩
        exact goW_done kQ (j7_mk v_1_0 v_1_3 v_1_4 v_1_7 v_1_8 v_1_11 b_1_13 (trivial) (hF.sub (L' := [(1, _), (2, _), (6, _), (7, _)]) ⟨rfl, rfl, rfl, rfl, trivial⟩) ((hS.perm (.cons _ (.cons _ (.swap _ _ _)))).perm (.cons _ (.swap _ _ _))))
       ·refine stepW_ef _ rfl rfl hF hS rfl (ef_allocA ty26) ?_
        clear hF hS; rintro _ _ _ a w ⟨b_1_13, rfl, rfl, rfl⟩ hF hS
        refine ⟨⟨.inr (hS.k1 (sQ.n.n.n.n.n)), .inr hS.k0, iQ, iQ, iQ, iQ, trivial⟩, ?_⟩
        refine gQ 11 rfl rfl hF hS rfl (ef_append ty24 ty4 3 rfl rfl rfl (src_slV ty24 hxb zin0) bQ rfl (by decide)) ?_
        clear hF hS; rintro v_1_11 _ _ a w ⟨rfl, rfl⟩ hF hS
        refine ⟨⟨iQ, iQ, iQ, iQ, iQ, iQ, trivial⟩, ?_⟩
        refine goW_take 12 _ rfl kQ rfl hF (hS.keep sQ (zQ.k.k.k.n)) (q_buildS1 ty26 3 kQ rfl rfl (oc_cons (row_one (hS.own _ (List.mem_of_getElem? (i := 2) rfl)).1) (oc_cons (row_one (hS.own _ (List.mem_of_getElem? (i := 1) rfl)).1) (oc_cons (row_one (hS.own _ (List.mem_of_getElem? (i := 3) rfl)).1) oc_nil))) rfl rfl) ?_
        clear hF; intro a hF
        refine gQ 14 rfl rfl hF hS rfl (ef_storeW ty26 0 rfl rfl rfl rfl bQ (oc_cons (row_one (hS.own _ (List.mem_of_getElem? (i := 2) rfl)).1) (oc_cons (row_one (hS.own _ (List.mem_of_getElem? (i := 1) rfl)).1) (oc_cons (row_one (hS.own _ (List.mem_of_getElem? (i := 3) rfl)).1) oc_nil))) bQ) ?_
        clear hF hS; rintro _ _ _ a w ⟨rfl, rfl, rfl⟩ hF hS
        refine ⟨⟨iQ, iQ, iQ, iQ, iQ, iQ, iQ, trivial⟩, ?_⟩
        exact goW_done kQ (j7_mk v_1_0 v_1_3 v_1_4 v_1_7 v_1_8 v_1_11 b_1_13 (trivial) (hF.sub (L' := [(1, _), (2, _), (6, _), (7, _)]) ⟨rfl, rfl, rfl, rfl, trivial⟩) ((hS.perm (.cons _ (.cons _ (.swap _ _ _)))).perm (.cons _ (.swap _ _ _))))
      ·refine stepW_ef _ rfl rfl hF hS rfl (ef_allocA ty26) ?_
       clear hF hS; rintro _ _ _ a w ⟨b_1_13, rfl, rfl, rfl⟩ hF hS
       refine ⟨⟨.inr (hS.k1 (sQ.n.n.n.n.n)), .inr hS.k0, .inr (hS.k1 (sQ.n.n.n.n.n)), .inr hS.k0, iQ, iQ, trivial⟩, ?_⟩
       refine gQ 7 rfl rfl hF hS rfl (ef_append ty22 ty3 1 rfl rfl rfl (src_slV ty22 hxs zin0) bQ rfl (by decide)) ?_
       clear hF hS; rintro v_1_7 _ _ a w ⟨rfl, rfl⟩ hF hS
       refine ⟨⟨.inr (hS.k1 (sQ.n.n.n.n.n)), .inr hS.k0, iQ, iQ, iQ, iQ, trivial⟩, ?_⟩
       refine gQ 11 rfl rfl hF hS rfl (ef_append ty24 ty4 3 rfl rfl rfl (src_slV ty24 hxb zin0) bQ rfl (by decide)) ?_
       clear hF hS; rintro v_1_11 _ _ a w ⟨rfl, rfl⟩ hF hS
       refine ⟨⟨iQ, iQ, iQ, iQ, iQ, iQ, trivial⟩, ?_⟩
       refine goW_take 12 _ rfl kQ rfl hF (hS.keep sQ (zQ.k.k.k.n)) (q_buildS1 ty26 3 kQ rfl rfl (oc_cons (row_one (hS.own _ (List.mem_of_getElem? (i := 2) rfl)).1) (oc_cons (row_one (hS.own _ (List.mem_of_getElem? (i := 1) rfl)).1) (oc_cons (row_one (hS.own _ (List.mem_of_getElem? (i := 3) rfl)).1) oc_nil))) rfl rfl) ?_
       clear hF; intro a hF
       refine gQ 14 rfl rfl hF hS rfl (ef_storeW ty26 0 rfl rfl rfl rfl bQ (oc_cons (row_one (hS.own _ (List.mem_of_getElem? (i := 2) rfl)).1) (oc_cons (row_one (hS.own _ (List.mem_of_getElem? (i := 1) rfl)).1) (oc_cons (row_one (hS.own _ (List.mem_of_getElem? (i := 3) rfl)).1) oc_nil))) bQ) ?_
       clear hF hS; rintro _ _ _ a w ⟨rfl, rfl, rfl⟩ hF hS
       refine ⟨⟨iQ, iQ, iQ, iQ, iQ, iQ, iQ, trivial⟩, ?_⟩
       exact goW_done kQ (j7_mk v_1_0 v_1_3 v_1_4 v_1_7 v_1_8 v_1_11 b_1_13 (trivial) (hF.sub (L' := [(1, _), (2, _), (6, _), (7, _)]) ⟨rfl, rfl, rfl, rfl, trivial⟩) ((hS.perm (.cons _ (.cons _ (.swap _ _ _)))).perm (.cons _ (.swap _ _ _))))
     ·refine stepW_ef _ rfl rfl hF hS rfl (ef_allocA ty26) ?_
      clear hF hS; rintro _ _ _ a w ⟨b_1_13, rfl, rfl, rfl⟩ hF hS
      refine ⟨⟨.inr (hS.k1 (sQ.n.n.n.n)), .inr hS.k0, .inr (hS.k1 (sQ.n.n.n.n)), .inr hS.k0, iQ, iQ, trivial⟩, ?_⟩
      refine gQ 4 rfl rfl hF hS rfl (ef_bslice0 ty22 ty3) ?_
      clear hF hS; rintro v_1_4 _ _ a w ⟨rfl, rfl⟩ hF hS
      refine ⟨⟨.inr (hS.k1 (sQ.n.n.n.n.n)), .inr hS.k0, .inr (hS.k1 (sQ.n.n.n.n.n)), .inr hS.k0, iQ, iQ, trivial⟩, ?_⟩
      refine gQ 7 rfl rfl hF hS rfl (ef_append ty22 ty3 0 rfl rfl rfl (src_slV ty22 hxs zin0) bQ rfl (by decide)) ?_
      clear hF hS; rintro v_1_7 _ _ a w ⟨rfl, rfl⟩ hF hS
      refine ⟨⟨.inr (hS.k1 (sQ.n.n.n.n.n)), .inr hS.k0, iQ, iQ, iQ, iQ, trivial⟩, ?_⟩
      refine gQ 11 rfl rfl hF hS rfl (ef_append ty24 ty4 3 rfl rfl rfl (src_slV ty24 hxb zin0) bQ rfl (by decide)) ?_
      clear hF hS; rintro v_1_11 _ _ a w ⟨rfl, rfl⟩ hF hS
      refine ⟨⟨iQ, iQ, iQ, iQ, iQ, iQ, trivial⟩, ?_⟩
      refine goW_take 12 _ rfl kQ rfl hF (hS.keep sQ (zQ.k.k.n.k)) (q_buildS1 ty26 3 kQ rfl rfl (oc_cons (row_one (hS.own _ (List.mem_of_getElem? (i := 2) rfl)).1) (oc_cons (row_one (hS.own _ (List.mem_of_getElem? (i := 0) rfl)).1) (oc_cons (row_one (hS.own _ (List.mem_of_getElem? (i := 3) rfl)).1) oc_nil))) rfl rfl) ?_
      clear hF; intro a hF
      refine gQ 14 rfl rfl hF hS rfl (ef_storeW ty26 1 rfl rfl rfl rfl bQ (oc_cons (row_one (hS.own _ (List.mem_of_getElem? (i := 2) rfl)).1) (oc_cons (row_one (hS.own _ (List.mem_of_getElem? (i := 0) rfl)).1) (oc_cons (row_one (hS.own _ (List.mem_of_getElem? (i := 3) rfl)).1) oc_nil))) bQ) ?_
      clear hF hS; rintro _ _ _ a w ⟨rfl, rfl, rfl⟩ hF hS
      refine ⟨⟨iQ, iQ, iQ, iQ, iQ, iQ, iQ, trivial⟩, ?_⟩
      exact goW_done kQ (j7_mk v_1_0 v_1_3 v_1_4 v_1_7 v_1_8 v_1_11 b_1_13 (trivial) (hF.sub (L' := [(1, _), (2, _), (6, _), (7, _)]) ⟨rfl, rfl, rfl, rfl, trivial⟩) (((hS.perm (.swap _ _ _)).perm (.cons _ (.cons _ (.swap _ _ _)))).perm (.cons _ (.swap _ _ _))))
    ·refine stepW_ef _ rfl rfl hF hS rfl (ef_bslice0 ty22 ty3) ?_
     clear hF hS; rintro v_1_4 _ _ a w ⟨rfl, rfl⟩ hF hS
     refine ⟨⟨.inr (hS.k1 (sQ.n.n.n.n)), .inr hS.k0, .inr (hS.k1 (sQ.n.n.n.n)), .inr hS.k0, .inr (hS.k1 (sQ.n.n.n.n)), .inr hS.k0, trivial⟩, ?_⟩
     refine goW_fork [3, 13] kQ rfl ⟨?_, ?_, trivial⟩
     ·refine stepW_ef _ rfl rfl hF hS rfl (ef_append ty23 ty83 1 rfl rfl rfl (src_slC ty23 hxn zin0 (by decide)) bQ rfl (by decide)) ?_
      clear hF hS; rintro v_1_3 _ _ a w ⟨rfl, rfl⟩ hF hS
      refine ⟨⟨.inr (hS.k1 (sQ.n.n.n.n)), .inr hS.k0, .inr (hS.k1 (sQ.n.n.n.n)), .inr hS.k0, iQ, iQ, trivial⟩, ?_⟩
      refine goW_fork [7, 13] kQ rfl ⟨?_, ?_, trivial⟩
      ·refine stepW_ef _ rfl rfl hF hS rfl (ef_append ty22 ty3 0 rfl rfl rfl (src_slV ty22 hxs zin0) bQ rfl (by decide)) ?_
       clear hF hS; rintro v_1_7 _ _ a w ⟨rfl, rfl⟩ hF hS
       refine ⟨⟨.inr (hS.k1 (sQ.n.n.n.n)), .inr hS.k0, iQ, iQ, iQ, iQ, trivial⟩, ?_⟩
       refine goW_fork [11, 13] kQ rfl ⟨?_, ?_, trivial⟩
       ·refine stepW_ef _ rfl rfl hF hS rfl (ef_append ty24 ty4 2 rfl rfl rfl (src_slV ty24 hxb zin0) bQ rfl (by decide)) ?_
        clear hF hS; rintro v_1_11 _ _ a w ⟨rfl, rfl⟩ hF hS
        refine ⟨⟨iQ, iQ, iQ, iQ, iQ, iQ, trivial⟩, ?_⟩
        refine goW_take 12 _ rfl kQ rfl hF (hS.keep sQ (zQ.k.k.k)) (q_buildS1 ty26 3 kQ rfl rfl (oc_cons (row_one (hS.own _ (List.mem_of_getElem? (i := 1) rfl)).1) (oc_cons (row_one (hS.own _ (List.mem_of_getElem? (i := 0) rfl)).1) (oc_cons (row_one (hS.own _ (List.mem_of_getElem? (i := 2) rfl)).1) oc_nil))) rfl rfl) ?_
        clear hF; intro a hF
        refine gQ 13 rfl rfl hF hS rfl (ef_allocA ty26) ?_
        clear hF hS; rintro _ _ _ a w ⟨b_1_13, rfl, rfl, rfl⟩ hF hS
        refine ⟨⟨.inr (hS.k1 (zQ.k.k.k.n)), iQ, iQ, iQ, iQ, iQ, iQ, trivial⟩, ?_⟩
        refine gQ 14 rfl rfl hF hS rfl (ef_storeW ty26 0 rfl rfl rfl rfl bQ (oc_cons (row_one (hS.own _ (List.mem_of_getElem? (i := 2) rfl)).1) (oc_cons (row_one (hS.own _ (List.mem_of_getElem? (i := 1) rfl)).1) (oc_cons (row_one (hS.own _ (List.mem_of_getElem? (i := 3) rfl)).1) oc_nil))) bQ) ?_
        clear hF hS; rintro _ _ _ a w ⟨rfl, rfl, rfl⟩ hF hS
        refine ⟨⟨iQ, iQ, iQ, iQ, iQ, iQ, iQ, trivial⟩, ?_⟩
        exact goW_done kQ (j7_mk v_1_0 v_1_3 v_1_4 v_1_7 v_1_8 v_1_11 b_1_13 (trivial) (hF.sub (L' := [(1, _), (2, _), (6, _), (7, _)]) ⟨rfl, rfl, rfl, rfl, trivial⟩) ((hS.perm (.cons _ (.cons _ (.swap _ _ _)))).perm (.cons _ (.swap _ _ _))))
       ·refine stepW_ef _ rfl rfl hF hS rfl (ef_allocA ty26) ?_
        clear hF hS; rintro _ _ _ a w ⟨b_1_13, rfl, rfl, rfl⟩ hF hS
        refine ⟨⟨.inr (hS.k1 (sQ.n.n.n.n.n)), .inr hS.k0, iQ, iQ, iQ, iQ, trivial⟩, ?_⟩
        refine gQ 11 rfl rfl hF hS rfl (ef_append ty24 ty4 3 rfl rfl rfl (src_slV ty24 hxb zin0) bQ rfl (by decide)) ?_
        clear hF hS; rintro v_1_11 _ _ a w ⟨rfl, rfl⟩ hF hS
        refine ⟨⟨iQ, iQ, iQ, iQ, iQ, iQ, trivial⟩, ?_⟩
        refine goW_take 12 _ rfl kQ rfl hF (hS.keep sQ (zQ.k.k.k.n)) (q_buildS1 ty26 3 kQ rfl rfl (oc_cons (row_one (hS.own _ (List.mem_of_getElem? (i := 2) rfl)).1) (oc_cons (row_one (hS.own _ (List.mem_of_getElem? (i := 1) rfl)).1) (oc_cons (row_one (hS.own _ (List.mem_of_getElem? (i := 3) rfl)).1) oc_nil))) rfl rfl) ?_
        clear hF; intro a hF
        refine gQ 14 rfl rfl hF hS rfl (ef_storeW ty26 0 rfl rfl rfl rfl bQ (oc_cons (row_one (hS.own _ (List.mem_of_getElem? (i := 2) rfl)).1) (oc_cons (row_one (hS.own _ (List.mem_of_getElem? (i := 1) rfl)).1) (oc_cons (row_one (hS.own _ (List.mem_of_getElem? (i := 3) rfl)).1) oc_nil))) bQ) ?_
        clear hF hS; rintro _ _ _ a w ⟨rfl, rfl, rfl⟩ hF hS
        refine ⟨⟨iQ, iQ, iQ, iQ, iQ, iQ, iQ, trivial⟩, ?_⟩
        exact goW_done kQ (j7_mk v_1_0 v_1_3 v_1_4 v_1_7 v_1_8 v_1_11 b_1_13 (trivial) (hF.sub (L' := [(1, _), (2, _), (6, _), (7, _)]) ⟨rfl, rfl, rfl, rfl, trivial⟩) ((hS.perm (.cons _ (.cons _ (.swap _ _ _)))).perm (.cons _ (.swap _ _ _))))
      ·refine stepW_ef _ rfl rfl hF hS rfl (ef_allocA ty26) ?_
       clear hF hS; rintro _ _ _ a w ⟨b_1_13, rfl, rfl, rfl⟩ hF hS
       refine ⟨⟨.inr (hS.k1 (sQ.n.n.n.n.n)), .inr hS.k0, .inr (hS.k1 (sQ.n.n.n.n.n)), .inr hS.k0, iQ, iQ, trivial⟩, ?_⟩
       refine gQ 7 rfl rfl hF hS rfl (ef_append ty22 ty3 1 rfl rfl rfl (src_slV ty22 hxs zin0) bQ rfl (by decide)) ?_
       clear hF hS; rintro v_1_7 _ _ a w ⟨rfl, rfl⟩ hF hS
       refine ⟨⟨.inr (hS.k1 (sQ.n.n.n.n.n)), .inr hS.k0, iQ, iQ, iQ, iQ, trivial⟩, ?_⟩
       refine gQ 11 rfl rfl hF hS rfl (ef_append ty24 ty4 3 rfl rfl rfl (src_slV ty24 hxb zin0) bQ rfl (by decide)) ?_
       clear hF hS; rintro v_1_11 _ _ a w ⟨rfl, rfl⟩ hF hS
       refine ⟨⟨iQ, iQ, iQ, iQ, iQ, iQ, trivial⟩, ?_⟩
       refine goW_take 12 _ rfl kQ rfl hF (hS.keep sQ (zQ.k.k.k.n)) (q_buildS1 ty26 3 kQ rfl rfl (oc_cons (row_one (hS.own _ (List.mem_of_getElem? (i := 2) rfl)).1) (oc_cons (row_one (hS.own _ (List.mem_of_getElem? (i := 1) rfl)).1) (oc_cons (row_one (hS.own _ (List.mem_of_getElem? (i := 3) rfl)).1) oc_nil))) rfl rfl) ?_
       clear hF; intro a hF
       refine gQ 14 rfl rfl hF hS rfl (ef_storeW ty26 0 rfl rfl rfl rfl bQ (oc_cons (row_one (hS.own _ (List.mem_of_getElem? (i := 2) rfl)).1) (oc_cons (row_one (hS.own _ (List.mem_of_getElem? (i := 1) rfl)).1) (oc_cons (row_one (hS.own _ (List.mem_of_getElem? (i := 3) rfl)).1) oc_nil))) bQ) ?_
       clear hF hS; rintro _ _ _ a w ⟨rfl, rfl, rfl⟩ hF hS
       refine ⟨⟨iQ, iQ, iQ, iQ, iQ, iQ, iQ, trivial⟩, ?_⟩
       exact goW_done kQ (j7_mk v_1_0 v_1_3 v_1_4 v_1_7 v_1_8 v_1_11 b_1_13 (trivial) (hF.sub (L' := [(1, _), (2, _), (6, _), (7, _)]) ⟨rfl, rfl, rfl, rfl, trivial⟩) ((hS.perm (.cons _ (.cons _ (.swap _ _ _)))).perm (.cons _ (.swap _ _ _))))
     ·refine stepW_ef _ rfl rfl hF hS rfl (ef_allocA ty26) ?_
      clear hF hS; rintro _ _ _ a w ⟨b_1_13, rfl, rfl, rfl⟩ hF hS
      refine ⟨⟨.inr (hS.k1 (sQ.n.n.n.n.n)), .inr hS.k0, .inr (hS.k1 (sQ.n.n.n.n.n)), .inr hS.k0, .inr (hS.k1 (sQ.n.n.n.n.n)), .inr hS.k0, trivial⟩, ?_⟩
      refine gQ 3 rfl rfl hF hS rfl (ef_append ty23 ty83 2 rfl rfl rfl (src_slC ty23 hxn zin0 (by decide)) bQ rfl (by decide)) ?_
      clear hF hS; rintro v_1_3 _ _ a w ⟨rfl, rfl⟩ hF hS
      refine ⟨⟨.inr (hS.k1 (sQ.n.n.n.n.n)), .inr hS.k0, .inr (hS.k1 (sQ.n.n.n.n.n)), .inr hS.k0, iQ, iQ, trivial⟩, ?_⟩
      refine gQ 7 rfl rfl hF hS rfl (ef_append ty22 ty3 1 rfl rfl rfl (src_slV ty22 hxs zin0) bQ rfl (by decide)) ?_
      clear hF hS; rintro v_1_7 _ _ a w ⟨rfl, rfl⟩ hF hS
      refine ⟨⟨.inr (hS.k1 (sQ.n.n.n.n.n)), .inr hS.k0, iQ, iQ, iQ, iQ, trivial⟩, ?_⟩
      refine gQ 11 rfl rfl hF hS rfl (ef_append ty24 ty4 3 rfl rfl rfl (src_slV ty24 hxb zin0) bQ rfl (by decide)) ?_
      clear hF hS; rintro v_1_11 _ _ a w ⟨rfl, rfl⟩ hF hS
      refine ⟨⟨iQ, iQ, iQ, iQ, iQ, iQ, trivial⟩, ?_⟩
      refine goW_take 12 _ rfl kQ rfl hF (hS.keep sQ (zQ.k.k.k.n)) (q_buildS1 ty26 3 kQ rfl rfl (oc_cons (row_one (hS.own _ (List.mem_of_getElem? (i := 2) rfl)).1) (oc_cons (row_one (hS.own _ (List.mem_of_getElem? (i := 1) rfl)).1) (oc_cons (row_one (hS.own _ (List.mem_of_getElem? (i := 3) rfl)).1) oc_nil))) rfl rfl) ?_
      clear hF; intro a hF
      refine gQ 14 rfl rfl hF hS rfl (ef_storeW ty26 0 rfl rfl rfl rfl bQ (oc_cons (row_one (hS.own _ (List.mem_of_getElem? (i := 2) rfl)).1) (oc_cons (row_one (hS.own _ (List.mem_of_getElem? (i := 1) rfl)).1) (oc_cons (row_one (hS.own _ (List.mem_of_getElem? (i := 3) rfl)).1) oc_nil))) bQ) ?_
      clear hF hS; rintro _ _ _ a w ⟨rfl, rfl, rfl⟩ hF hS
      refine ⟨⟨iQ, iQ, iQ, iQ, iQ, iQ, iQ, trivial⟩, ?_⟩
      exact goW_done kQ (j7_mk v_1_0 v_1_3 v_1_4 v_1_7 v_1_8 v_1_11 b_1_13 (trivial) (hF.sub (L' := [(1, _), (2, _), (6, _), (7, _)]) ⟨rfl, rfl, rfl, rfl, trivial⟩) ((hS.perm (.cons _ (.cons _ (.swap _ _ _)))).perm (.cons _ (.swap _ _ _))))
    ·refine stepW_ef _ rfl rfl hF hS rfl (ef_allocA ty26) ?_
     clear hF hS; rintro _ _ _ a w ⟨b_1_13, rfl, rfl, rfl⟩ hF hS
     refine ⟨⟨.inr (hS.k1 (sQ.n.n.n.n)), .inr hS.k0, .inr (hS.k1 (sQ.n.n.n.n)), .inr hS.k0, .inr (hS.k1 (sQ.n.n.n.n)), .inr hS.k0, trivial⟩, ?_⟩
     refine goW_fork [3, 4] kQ rfl ⟨?_, ?_, trivial⟩
     ·refine stepW_ef _ rfl rfl hF hS rfl (ef_append ty23 ty83 1 rfl rfl rfl (src_slC ty23 hxn zin0 (by decide)) bQ rfl (by decide)) ?_
      clear hF hS; rintro v_1_3 _ _ a w ⟨rfl, rfl⟩ hF hS
      refine ⟨⟨.inr (hS.k1 (sQ.n.n.n.n)), .inr hS.k0, .inr (hS.k1 (sQ.n.n.n.n)), .inr hS.k0, iQ, iQ, trivial⟩, ?_⟩
      refine gQ 4 rfl rfl hF hS rfl (ef_bslice0 ty22 ty3) ?_
      clear hF hS; rintro v_1_4 _ _ a w ⟨rfl, rfl⟩ hF hS
      refine ⟨⟨.inr (hS.k1 (sQ.n.n.n.n.n)), .inr hS.k0, .inr (hS.k1 (sQ.n.n.n.n.n)), .inr hS.k0, iQ, iQ, trivial⟩, ?_⟩
      refine gQ 7 rfl rfl hF hS rfl (ef_append ty22 ty3 0 rfl rfl rfl (src_slV ty22 hxs zin0) bQ rfl (by decide)) ?_
      clear hF hS; rintro v_1_7 _ _ a w ⟨rfl, rfl⟩ hF hS
      refine ⟨⟨.inr (hS.k1 (sQ.n.n.n.n.n)), .inr hS.k0, iQ, iQ, iQ, iQ, trivial⟩, ?_⟩
      refine gQ 11 rfl rfl hF hS rfl (ef_append ty24 ty4 3 rfl rfl rfl (src_slV ty24 hxb zin0) bQ rfl (by decide)) ?_
      clear hF hS; rintro v_1_11 _ _ a w ⟨rfl, rfl⟩ hF hS
      refine ⟨⟨iQ, iQ, iQ, iQ, iQ, iQ, trivial⟩, ?_⟩
      refine goW_take 12 _ rfl kQ rfl hF (hS.keep sQ (zQ.k.k.n.k)) (q_buildS1 ty26 3 kQ rfl rfl (oc_cons (row_one (hS.own _ (List.mem_of_getElem? (i := 2) rfl)).1) (oc_cons (row_one (hS.own _ (List.mem_of_getElem? (i := 0) rfl)).1) (oc_cons (row_one (hS.own _ (List.mem_of_getElem? (i := 3) rfl)).1) oc_nil))) rfl rfl) ?_
      clear hF; intro a hF
      refine gQ 14 rfl rfl hF hS rfl (ef_storeW ty26 1 rfl rfl rfl rfl bQ (oc_cons (row_one (hS.own _ (List.mem_of_getElem? (i := 2) rfl)).1) (oc_cons (row_one (hS.own _ (List.mem_of_getElem? (i := 0) rfl)).1) (oc_cons (row_one (hS.own _ (List.mem_of_getElem? (i := 3) rfl)).1) oc_nil))) bQ) ?_
      clear hF hS; rintro _ _ _ a w ⟨rfl, rfl, rfl⟩ hF hS
      refine ⟨⟨iQ, iQ, iQ, iQ, iQ, iQ, iQ, trivial⟩, ?_⟩
      exact goW_done kQ (j7_mk v_1_0 v_1_3 v_1_4 v_1_7 v_1_8 v_1_11 b_1_13 (trivial) (hF.sub (L' := [(1, _), (2, _), (6, _), (7, _)]) ⟨rfl, rfl, rfl, rfl, trivial⟩) (((hS.perm (.swap _ _ _)).perm (.cons _ (.cons _ (.swap _ _ _)))).perm (.cons _ (.swap _ _ _))))
     ·refine stepW_ef _ rfl rfl hF hS rfl (ef_bslice0 ty22 ty3) ?_
      clear hF hS; rintro v_1_4 _ _ a w ⟨rfl, rfl⟩ hF hS
      refine ⟨⟨.inr (hS.k1 (sQ.n.n.n.n.n)), .inr hS.k0, .inr (hS.k1 (sQ.n.n.n.n.n)), .inr hS.k0, .inr (hS.k1 (sQ.n.n.n.n.n)), .inr hS.k0, trivial⟩, ?_⟩
      refine gQ 3 rfl rfl hF hS rfl (ef_append ty23 ty83 2 rfl rfl rfl (src_slC ty23 hxn zin0 (by decide)) bQ rfl (by decide)) ?_
      clear hF hS; rintro v_1_3 _ _ a w ⟨rfl, rfl⟩ hF hS
      refine ⟨⟨.inr (hS.k1 (sQ.n.n.n.n.n)), .inr hS.k0, .inr (hS.k1 (sQ.n.n.n.n.n)), .inr hS.k0, iQ, iQ, trivial⟩, ?_⟩
      refine gQ 7 rfl rfl hF hS rfl (ef_append ty22 ty3 0 rfl rfl rfl (src_slV ty22 hxs zin0) bQ rfl (by decide)) ?_
      clear hF hS; rintro v_1_7 _ _ a w ⟨rfl, rfl⟩ hF hS
      refine ⟨⟨.inr (hS.k1 (sQ.n.n.n.n.n)), .inr hS.k0, iQ, iQ, iQ, iQ, trivial⟩, ?_⟩
      refine gQ 11 rfl rfl hF hS rfl (ef_append ty24 ty4 3 rfl rfl rfl (src_slV ty24 hxb zin0) bQ rfl (by decide)) ?_
      clear hF hS; rintro v_1_11 _ _ a w ⟨rfl, rfl⟩ hF hS
      refine ⟨⟨iQ, iQ, iQ, iQ, iQ, iQ, trivial⟩, ?_⟩
      refine goW_take 12 _ rfl kQ rfl hF (hS.keep sQ (zQ.k.k.n.k)) (q_buildS1 ty26 3 kQ rfl rfl (oc_cons (row_one (hS.own _ (List.mem_of_getElem? (i := 2) rfl)).1) (oc_cons (row_one (hS.own _ (List.mem_of_getElem? (i := 0) rfl)).1) (oc_cons (row_one (hS.own _ (List.mem_of_getElem? (i := 3) rfl)).1) oc_nil))) rfl rfl) ?_
      clear hF; intro a hF
      refine gQ 14 rfl rfl hF hS rfl (ef_storeW ty26 1 rfl rfl rfl rfl bQ (oc_cons (row_one (hS.own _ (List.mem_of_getElem? (i := 2) rfl)).1) (oc_cons (row_one (hS.own _ (List.mem_of_getElem? (i := 0) rfl)).1) (oc_cons (row_one (hS.own _ (List.mem_of_getElem? (i := 3) rfl)).1) oc_nil))) bQ) ?_
      clear hF hS; rintro _ _ _ a w ⟨rfl, rfl, rfl⟩ hF hS
      refine ⟨⟨iQ, iQ, iQ, iQ, iQ, iQ, iQ, trivial⟩, ?_⟩
      exact goW_done kQ (j7_mk v_1_0 v_1_3 v_1_4 v_1_7 v_1_8 v_1_11 b_1_13 (trivial) (hF.sub (L' := [(1, _), (2, _), (6, _), (7, _)]) ⟨rfl, rfl, rfl, rfl, trivial⟩) (((hS.perm (.swap _ _ _)).perm (.cons _ (.cons _ (.swap _ _ _)))).perm (.cons _ (.swap _ _ _))))
   ·refine stepW_ef _ rfl rfl hF hS rfl (ef_bslice0 ty22 ty3) ?_
    clear hF hS; rintro v_1_4 _ _ a w ⟨rfl, rfl⟩ hF hS
    refine ⟨⟨.inr (hS.k1 (sQ.n.n.n)), .inr hS.k0, .inr (hS.k1 (sQ.n.n.n)), .inr hS.k0, .inr (hS.k1 (sQ.n.n.n)), .inr hS.k0, trivial⟩, ?_⟩
    refine goW_fork [0, 13] kQ rfl ⟨?_, ?_, trivial⟩
    ·refine stepW_ef _ rfl rfl hF hS rfl (ef_bslice0 ty23 ty83) ?_
     clear hF hS; rintro v_1_0 _ _ a w ⟨rfl, rfl⟩ hF hS
     refine ⟨⟨.inr (hS.k1 (sQ.n.n.n.n)), .inr hS.k0, .inr (hS.k1 (sQ.n.n.n.n)), .inr hS.k0, .inr (hS.k1 (sQ.n.n.n.n)), .inr hS.k0, trivial⟩, ?_⟩
     refine goW_fork [3, 13] kQ rfl ⟨?_, ?_, trivial⟩
     ·refine stepW_ef _ rfl rfl hF hS rfl (ef_append ty23 ty83 0 rfl rfl rfl (src_slC ty23 hxn zin0 (by decide)) bQ rfl (by decide)) ?_
      clear hF hS; rintro v_1_3 _ _ a w ⟨rfl, rfl⟩ hF hS
      refine ⟨⟨.inr (hS.k1 (sQ.n.n.n.n)), .inr hS.k0, .inr (hS.k1 (sQ.n.n.n.n)), .inr hS.k0, iQ, iQ, trivial⟩, ?_⟩
      refine goW_fork [7, 13] kQ rfl ⟨?_, ?_, trivial⟩
      ·refine stepW_ef _ rfl rfl hF hS rfl (ef_append ty22 ty3 1 rfl rfl rfl (src_slV ty22 hxs zin0) bQ rfl (by decide)) ?_
       clear hF hS; rintro v_1_7 _ _ a w ⟨rfl, rfl⟩ hF hS
       refine ⟨⟨.inr (hS.k1 (sQ.n.n.n.n)), .inr hS.k0, iQ, iQ, iQ, iQ, trivial⟩, ?_⟩
       refine goW_fork [11, 13] kQ rfl ⟨?_, ?_, trivial⟩
       ·refine stepW_ef _ rfl rfl hF hS rfl (ef_append ty24 ty4 2 rfl rfl rfl (src_slV ty24 hxb zin0) bQ rfl (by decide)) ?_
        clear hF hS; rintro v_1_11 _ _ a w ⟨rfl, rfl⟩ hF hS
        refine ⟨⟨iQ, iQ, iQ, iQ, iQ, iQ, trivial⟩, ?_⟩
        refine goW_take 12 _ rfl kQ rfl hF (hS.keep sQ (zQ.k.k.k)) (q_buildS1 ty26 3 kQ rfl rfl (oc_cons (row_one (hS.own _ (List.mem_of_getElem? (i := 0) rfl)).1) (oc_cons (row_one (hS.own _ (List.mem_of_getElem? (i := 1) rfl)).1) (oc_cons (row_one (hS.own _ (List.mem_of_getElem? (i := 2) rfl)).1) oc_nil))) rfl rfl) ?_
        clear hF; intro a hF
        refine gQ 13 rfl rfl hF hS rfl (ef_allocA ty26) ?_
        clear hF hS; rintro _ _ _ a w ⟨b_1_13, rfl, rfl, rfl⟩ hF hS
        refine ⟨⟨.inr (hS.k1 (zQ.k.k.k.n)), iQ, iQ, iQ, iQ, iQ, iQ, trivial⟩, ?_⟩
        refine gQ 14 rfl rfl hF hS rfl (ef_storeW ty26 0 rfl rfl rfl rfl bQ (oc_cons (row_one (hS.own _ (List.mem_of_getElem? (i := 1) rfl)).1) (oc_cons (row_one (hS.own _ (List.mem_of_getElem? (i := 2) rfl)).1) (oc_cons (row_one (hS.own _ (List.mem_of_getElem? (i := 3) rfl)).1) oc_nil))) bQ) ?_
        clear hF hS; rintro _ _ _ a w ⟨rfl, rfl, rfl⟩ hF hS
        refine ⟨⟨iQ, iQ, iQ, iQ, iQ, iQ, iQ, trivial⟩, ?_⟩
        exact goW_done kQ (j7_mk v_1_0 v_1_3 v_1_4 v_1_7 v_1_8 v_1_11 b_1_13 (trivial) (hF.sub (L' := [(1, _), (2, _), (6, _), (7, _)]) ⟨rfl, rfl, rfl, rfl, trivial⟩) (((hS.perm (.cons _ (.cons _ (.swap _ _ _)))).perm (.cons _ (.swap _ _ _))).perm (.cons _ (.cons _ (.swap _ _ _)))))
       ·refine stepW_ef _ rfl rfl hF hS rfl (ef_allocA ty26) ?_
        clear hF hS; rintro _ _ _ a w ⟨b_1_13, rfl, rfl, rfl⟩ hF hS
        refine ⟨⟨.inr (hS.k1 (sQ.n.n.n.n.n)), .inr hS.k0, iQ, iQ, iQ, iQ, trivial⟩, ?_⟩
        refine gQ 11 rfl rfl hF hS rfl (ef_append ty24 ty4 3 rfl rfl rfl (src_slV ty24 hxb zin0) bQ rfl (by decide)) ?_
        clear hF hS; rintro v_1_11 _ _ a w ⟨rfl, rfl⟩ hF hS
        refine ⟨⟨iQ, iQ, iQ, iQ, iQ, iQ, trivial⟩, ?_⟩
        refine goW_take 12 _ rfl kQ rfl hF (hS.keep sQ (zQ.k.k.k.n)) (q_buildS1 ty26 3 kQ rfl rfl (oc_cons (row_one (hS.own _ (List.mem_of_getElem? (i := 1) rfl)).1) (oc_cons (row_one (hS.own _ (List.mem_of_getElem? (i := 2) rfl)).1) (oc_cons (row_one (hS.own _ (List.mem_of_getElem? (i := 3) rfl)).1) oc_nil))) rfl rfl) ?_
        clear hF; intro a hF
        refine gQ 14 rfl rfl hF hS rfl (ef_storeW ty26 0 rfl rfl rfl rfl bQ (oc_cons (row_one (hS.own _ (List.mem_of_getElem? (i := 1) rfl)).1) (oc_cons (row_one (hS.own _ (List.mem_of_getElem? (i := 2) rfl)).1) (oc_cons (row_one (hS.own _ (List.mem_of_getElem? (i := 3) rfl)).1) oc_nil))) bQ) ?_
        clear hF hS; rintro _ _ _ a w ⟨rfl, rfl, rfl⟩ hF hS
        refine ⟨⟨iQ, iQ, iQ, iQ, iQ, iQ, iQ, trivial⟩, ?_⟩
        exact goW_done kQ (j7_mk v_1_0 v_1_3 v_1_4 v_1_7 v_1_8 v_1_11 b_1_13 (trivial) (hF.sub (L' := [(1, _), (2, _), (6, _), (7, _)]) ⟨rfl, rfl, rfl, rfl, trivial⟩) (((hS.perm (.cons _ (.cons _ (.swap _ _ _)))).perm (.cons _ (.swap _ _ _))).perm (.cons _ (.cons _ (.swap _ _ _)))))
      ·refine stepW_ef _ rfl rfl hF hS rfl (ef_allocA ty26) ?_
       clear hF hS; rintro _ _ _ a w ⟨b_1_13, rfl, rfl, rfl⟩ hF hS
       refine ⟨⟨.inr (hS.k1 (sQ.n.n.n.n.n)), .inr hS.k0, .inr (hS.k1 (sQ.n.n.n.n.n)), .inr hS.k0, iQ, iQ, trivial⟩, ?_⟩
       refine gQ 7 rfl rfl hF hS rfl (ef_append ty22 ty3 2 rfl rfl rfl (src_slV ty22 hxs zin0) bQ rfl (by decide)) ?_
       clear hF hS; rintro v_1_7 _ _ a w ⟨rfl, rfl⟩ hF hS
       refine ⟨⟨.inr (hS.k1 (sQ.n.n.n.n.n)), .inr hS.k0, iQ, iQ, iQ, iQ, trivial⟩, ?_⟩
       refine gQ 11 rfl rfl hF hS rfl (ef_append ty24 ty4 3 rfl rfl rfl (src_slV ty24 hxb zin0) bQ rfl (by decide)) ?_
       clear hF hS; rintro v_1_11 _ _ a w ⟨rfl, rfl⟩ hF hS
       refine ⟨⟨iQ, iQ, iQ, iQ, iQ, iQ, trivial⟩, ?_⟩
       refine goW_take 12 _ rfl kQ rfl hF (hS.keep sQ (zQ.k.k.k.n)) (q_buildS1 ty26 3 kQ rfl rfl (oc_cons (row_one (hS.own _ (List.mem_of_getElem? (i := 1) rfl)).1) (oc_cons (row_one (hS.own _ (List.mem_of_getElem? (i := 2) rfl)).1) (oc_cons (row_one (hS.own _ (List.mem_of_getElem? (i := 3) rfl)).1) oc_nil))) rfl rfl) ?_
       clear hF; intro a hF
       refine gQ 14 rfl rfl hF hS rfl (ef_storeW ty26 0 rfl rfl rfl rfl bQ (oc_cons (row_one (hS.own _ (List.mem_of_getElem? (i := 1) rfl)).1) (oc_cons (row_one (hS.own _ (List.mem_of_getElem? (i := 2) rfl)).1) (oc_cons (row_one (hS.own _ (List.mem_of_getElem? (i := 3) rfl)).1) oc_nil))) bQ) ?_
       clear hF hS; rintro _ _ _ a w ⟨rfl, rfl, rfl⟩ hF hS
       refine ⟨⟨iQ, iQ, iQ, iQ, iQ, iQ, iQ, trivial⟩, ?_⟩
       exact goW_done kQ (j7_mk v_1_0 v_1_3 v_1_4 v_1_7 v_1_8 v_1_11 b_1_13 (trivial) (hF.sub (L' := [(1, _), (2, _), (6, _), (7, _)]) ⟨rfl, rfl, rfl, rfl, trivial⟩) (((hS.perm (.cons _ (.cons _ (.swap _ _ _)))).perm (.cons _ (.swap _ _ _))).perm (.cons _ (.cons _ (.swap _ _ _)))))
     ·refine stepW_ef _ rfl rfl hF hS rfl (ef_allocA ty26) ?_
      clear hF hS; rintro _ _ _ a w ⟨b_1_13, rfl, rfl, rfl⟩ hF hS
      refine ⟨⟨.inr (hS.k1 (sQ.n.n.n.n.n)), .inr hS.k0, .inr (hS.k1 (sQ.n.n.n.n.n)), .inr hS.k0, .inr (hS.k1 (sQ.n.n.n.n.n)), .inr hS.k0, trivial⟩, ?_⟩
      refine gQ 3 rfl rfl hF hS rfl (ef_append ty23 ty83 1 rfl rfl rfl (src_slC ty23 hxn zin0 (by decide)) bQ rfl (by decide)) ?_
      clear hF hS; rintro v_1_3 _ _ a w ⟨rfl, rfl⟩ hF hS
      refine ⟨⟨.inr (hS.k1 (sQ.n.n.n.n.n)), .inr hS.k0, .inr (hS.k1 (sQ.n.n.n.n.n)), .inr hS.k0, iQ, iQ, trivial⟩, ?_⟩
      refine gQ 7 rfl rfl hF hS rfl (ef_append ty22 ty3 2 rfl rfl rfl (src_slV ty22 hxs zin0) bQ rfl (by decide)) ?_
      clear hF hS; rintro v_1_7 _ _ a w ⟨rfl, rfl⟩ hF hS
      refine ⟨⟨.inr (hS.k1 (sQ.n.n.n.n.n)), .inr hS.k0, iQ, iQ, iQ, iQ, trivial⟩, ?_⟩
      refine gQ 11 rfl rfl hF hS rfl (ef_append ty24 ty4 3 rfl rfl rfl (src_slV ty24 hxb zin0) bQ rfl (by decide)) ?_
      clear hF hS; rintro v_1_11 _ _ a w ⟨rfl, rfl⟩ hF hS
      refine ⟨⟨iQ, iQ, iQ, iQ, iQ, iQ, trivial⟩, ?_⟩
      refine goW_take 12 _ rfl kQ rfl hF (hS.keep sQ (zQ.k.k.k.n)) (q_buildS1 ty26 3 kQ rfl rfl (oc_cons (row_one (hS.own _ (List.mem_of_getElem? (i := 1) rfl)).1) (oc_cons (row_one (hS.own _ (List.mem_of_getElem? (i := 2) rfl)).1) (oc_cons (row_one (hS.own _ (List.mem_of_getElem? (i := 3) rfl)).1) oc_nil))) rfl rfl) ?_
      clear hF; intro a hF
      refine gQ 14 rfl rfl hF hS rfl (ef_storeW ty26 0 rfl rfl rfl rfl bQ (oc_cons (row_one (hS.own _ (List.mem_of_getElem? (i := 1) rfl)).1) (oc_cons (row_one (hS.own _ (List.mem_of_getElem? (i := 2) rfl)).1) (oc_cons (row_one (hS.own _ (List.mem_of_getElem? (i := 3) rfl)).1) oc_nil))) bQ) ?_
      clear hF hS; rintro _ _ _ a w ⟨rfl, rfl, rfl⟩ hF hS
      refine ⟨⟨iQ, iQ, iQ, iQ, iQ, iQ, iQ, trivial⟩, ?_⟩
      exact goW_done kQ (j7_mk v_1_0 v_1_3 v_1_4 v_1_7 v_1_8 v_1_11 b_1_13 (trivial) (hF.sub (L' := [(1, _), (2, _), (6, _), (7, _)]) ⟨rfl, rfl, rfl, rfl, trivial⟩) (((hS.perm (.cons _ (.cons _ (.swap _ _ _)))).perm (.cons _ (.swap _ _ _))).perm (.cons _ (.cons _ (.swap _ _ _)))))
    ·refine stepW_ef _ rfl rfl hF hS rfl (ef_allocA ty26) ?_
     clear hF hS; rintro _ _ _ a w ⟨b_1_13, rfl, rfl, rfl⟩ hF hS
     refine ⟨⟨.inr (hS.k1 (sQ.n.n.n.n)), .inr hS.k0, .inr (hS.k1 (sQ.n.n.n.n)), .inr hS.k0, .inr (hS.k1 (sQ.n.n.n.n)), .inr hS.k0, trivial⟩, ?_⟩
     refine gQ 0 rfl rfl hF hS rfl (ef_bslice0 ty23 ty83) ?_
     clear hF hS; rintro v_1_0 _ _ a w ⟨rfl, rfl⟩ hF hS
     refine ⟨⟨.inr (hS.k1 (sQ.n.n.n.n.n)), .inr hS.k0, .inr (hS.k1 (sQ.n.n.n.n.n)), .inr hS.k0, .inr (hS.k1 (sQ.n.n.n.n.n)), .inr hS.k0, trivial⟩, ?_⟩
     refine gQ 3 rfl rfl hF hS rfl (ef_append ty23 ty83 0 rfl rfl rfl (src_slC ty23 hxn zin0 (by decide)) bQ rfl (by decide)) ?_
     clear hF hS; rintro v_1_3 _ _ a w ⟨rfl, rfl⟩ hF hS
     refine ⟨⟨.inr (hS.k1 (sQ.n.n.n.n.n)), .inr hS.k0, .inr (hS.k1 (sQ.n.n.n.n.n)), .inr hS.k0, iQ, iQ, trivial⟩, ?_⟩
     refine gQ 7 rfl rfl hF hS rfl (ef_append ty22 ty3 2 rfl rfl rfl (src_slV ty22 hxs zin0) bQ rfl (by decide)) ?_
     clear hF hS; rintro v_1_7 _ _ a w ⟨rfl, rfl⟩ hF hS
     refine ⟨⟨.inr (hS.k1 (sQ.n.n.n.n.n)), .inr hS.k0, iQ, iQ, iQ, iQ, trivial⟩, ?_⟩
     refine gQ 11 rfl rfl hF hS rfl (ef_append ty24 ty4 3 rfl rfl rfl (src_slV ty24 hxb zin0) bQ rfl (by decide)) ?_
     clear hF hS; rintro v_1_11 _ _ a w ⟨rfl, rfl⟩ hF hS
     refine ⟨⟨iQ, iQ, iQ, iQ, iQ, iQ, trivial⟩, ?_⟩
     refine goW_take 12 _ rfl kQ rfl hF (hS.keep sQ (zQ.k.k.n.k)) (q_buildS1 ty26 3 kQ rfl rfl (oc_cons (row_one (hS.own _ (List.mem_of_getElem? (i := 0) rfl)).1) (oc_cons (row_one (hS.own _ (List.mem_of_getElem? (i := 2) rfl)).1) (oc_cons (row_one (hS.own _ (List.mem_of_getElem? (i := 3) rfl)).1) oc_nil))) rfl rfl) ?_
     clear hF; intro a hF
     refine gQ 14 rfl rfl hF hS rfl (ef_storeW ty26 1 rfl rfl rfl rfl bQ (oc_cons (row_one (hS.own _ (List.mem_of_getElem? (i := 0) rfl)).1) (oc_cons (row_one (hS.own _ (List.mem_of_getElem? (i := 2) rfl)).1) (oc_cons (row_one (hS.own _ (List.mem_of_getElem? (i := 3) rfl)).1) oc_nil))) bQ) ?_
     clear hF hS; rintro _ _ _ a w ⟨rfl, rfl, rfl⟩ hF hS
     refine ⟨⟨iQ, iQ, iQ, iQ, iQ, iQ, iQ, trivial⟩, ?_⟩
     exact goW_done kQ (j7_mk v_1_0 v_1_3 v_1_4 v_1_7 v_1_8 v_1_11 b_1_13 (trivial) (hF.sub (L' := [(1, _), (2, _), (6, _), (7, _)]) ⟨rfl, rfl, rfl, rfl, trivial⟩) ((((hS.perm (.swap _ _ _)).perm (.cons _ (.cons _ (.swap _ _ _)))).perm (.cons _ (.swap _ _ _))).perm (.cons _ (.cons _ (.swap _ _ _)))))
   ·refine stepW_ef _ rfl rfl hF hS rfl (ef_allocA ty26) ?_
    clear hF hS; rintro _ _ _ a w ⟨b_1_13, rfl, rfl, rfl⟩ hF hS
    refine ⟨⟨.inr (hS.k1 (sQ.n.n.n)), .inr hS.k0, .inr (hS.k1 (sQ.n.n.n)), .inr hS.k0, .inr (hS.k1 (sQ.n.n.n)), .inr hS.k0, trivial⟩, ?_⟩
    refine goW_fork [0, 4] kQ rfl ⟨?_, ?_, trivial⟩
    ·refine stepW_ef _ rfl rfl hF hS rfl (ef_bslice0 ty23 ty83) ?_
     clear hF hS; rintro v_1_0 _ _ a w ⟨rfl, rfl⟩ hF hS
     refine ⟨⟨.inr (hS.k1 (sQ.n.n.n.n)), .inr hS.k0, .inr (hS.k1 (sQ.n.n.n.n)), .inr hS.k0, .inr (hS.k1 (sQ.n.n.n.n)), .inr hS.k0, trivial⟩, ?_⟩
     refine goW_fork [3, 4] kQ rfl ⟨?_, ?_, trivial⟩
     ·refine stepW_ef _ rfl rfl hF hS rfl (ef_append ty23 ty83 0 rfl rfl rfl (src_slC ty23 hxn zin0 (by decide)) bQ rfl (by decide)) ?_
      clear hF hS; rintro v_1_3 _ _ a w ⟨rfl, rfl⟩ hF hS
      refine ⟨⟨.inr (hS.k1 (sQ.n.n.n.n)), .inr hS.k0, .inr (hS.k1 (sQ.n.n.n.n)), .inr hS.k0, iQ, iQ, trivial⟩, ?_⟩
      refine gQ 4 rfl rfl hF hS rfl (ef_bslice0 ty22 ty3) ?_
      clear hF hS; rintro v_1_4 _ _ a w ⟨rfl, rfl⟩ hF hS
      refine ⟨⟨.inr (hS.k1 (sQ.n.n.n.n.n)), .inr hS.k0, .inr (hS.k1 (sQ.n.n.n.n.n)), .inr hS.k0, iQ, iQ, trivial⟩, ?_⟩
      refine gQ 7 rfl rfl hF hS rfl (ef_append ty22 ty3 0 rfl rfl rfl (src_slV ty22 hxs zin0) bQ rfl (by decide)) ?_
      clear hF hS; rintro v_1_7 _ _ a w ⟨rfl, rfl⟩ hF hS
      refine ⟨⟨.inr (hS.k1 (sQ.n.n.n.n.n)), .inr hS.k0, iQ, iQ, iQ, iQ, trivial⟩, ?_⟩
      refine gQ 11 rfl rfl hF hS rfl (ef_append ty24 ty4 3 rfl rfl rfl (src_slV ty24 hxb zin0) bQ rfl (by decide)) ?_
      clear hF hS; rintro v_1_11 _ _ a w ⟨rfl, rfl⟩ hF hS
      refine ⟨⟨iQ, iQ, iQ, iQ, iQ, iQ, trivial⟩, ?_⟩
      refine goW_take 12 _ rfl kQ rfl hF (hS.keep sQ (zQ.k.n.k.k)) (q_buildS1 ty26 3 kQ rfl rfl (oc_cons (row_one (hS.own _ (List.mem_of_getElem? (i := 1) rfl)).1) (oc_cons (row_one (hS.own _ (List.mem_of_getElem? (i := 0) rfl)).1) (oc_cons (row_one (hS.own _ (List.mem_of_getElem? (i := 3) rfl)).1) oc_nil))) rfl rfl) ?_
      clear hF; intro a hF
      refine gQ 14 rfl rfl hF hS rfl (ef_storeW ty26 2 rfl rfl rfl rfl bQ (oc_cons (row_one (hS.own _ (List.mem_of_getElem? (i := 1) rfl)).1) (oc_cons (row_one (hS.own _ (List.mem_of_getElem? (i := 0) rfl)).1) (oc_cons (row_one (hS.own _ (List.mem_of_getElem? (i := 3) rfl)).1) oc_nil))) bQ) ?_
      clear hF hS; rintro _ _ _ a w ⟨rfl, rfl, rfl⟩ hF hS
      refine ⟨⟨iQ, iQ, iQ, iQ, iQ, iQ, iQ, trivial⟩, ?_⟩
      exact goW_done kQ (j7_mk v_1_0 v_1_3 v_1_4 v_1_7 v_1_8 v_1_11 b_1_13 (trivial) (hF.sub (L' := [(1, _), (2, _), (6, _), (7, _)]) ⟨rfl, rfl, rfl, rfl, trivial⟩) ((((hS.perm (.cons _ (.swap _ _ _))).perm (.swap _ _ _)).perm (.cons _ (.cons _ (.swap _ _ _)))).perm (.cons _ (.swap _ _ _))))
     ·refine stepW_ef _ rfl rfl hF hS rfl (ef_bslice0 ty22 ty3) ?_
      clear hF hS; rintro v_1_4 _ _ a w ⟨rfl, rfl⟩ hF hS
      refine ⟨⟨.inr (hS.k1 (sQ.n.n.n.n.n)), .inr hS.k0, .inr (hS.k1 (sQ.n.n.n.n.n)), .inr hS.k0, .inr (hS.k1 (sQ.n.n.n.n.n)), .inr hS.k0, trivial⟩, ?_⟩
      refine gQ 3 rfl rfl hF hS rfl (ef_append ty23 ty83 1 rfl rfl rfl (src_slC ty23 hxn zin0 (by decide)) bQ rfl (by decide)) ?_
      clear hF hS; rintro v_1_3 _ _ a w ⟨rfl, rfl⟩ hF hS
      refine ⟨⟨.inr (hS.k1 (sQ.n.n.n.n.n)), .inr hS.k0, .inr (hS.k1 (sQ.n.n.n.n.n)), .inr hS.k0, iQ, iQ, trivial⟩, ?_⟩
      refine gQ 7 rfl rfl hF hS rfl (ef_append ty22 ty3 0 rfl rfl rfl (src_slV ty22 hxs zin0) bQ rfl (by decide)) ?_
      clear hF hS; rintro v_1_7 _ _ a w ⟨rfl, rfl⟩ hF hS
      refine ⟨⟨.inr (hS.k1 (sQ.n.n.n.n.n)), .inr hS.k0, iQ, iQ, iQ, iQ, trivial⟩, ?_⟩
      refine gQ 11 rfl rfl hF hS rfl (ef_append ty24 ty4 3 rfl rfl rfl (src_slV ty24 hxb zin0) bQ rfl (by decide)) ?_
      clear hF hS; rintro v_1_11 _ _ a w ⟨rfl, rfl⟩ hF hS
      refine ⟨⟨iQ, iQ, iQ, iQ, iQ, iQ, trivial⟩, ?_⟩
      refine goW_take 12 _ rfl kQ rfl hF (hS.keep sQ (zQ.k.n.k.k)) (q_buildS1 ty26 3 kQ rfl rfl (oc_cons (row_one (hS.own _ (List.mem_of_getElem? (i := 1) rfl)).1) (oc_cons (row_one (hS.own _ (List.mem_of_getElem? (i := 0) rfl)).1) (oc_cons (row_one (hS.own _ (List.mem_of_getElem? (i := 3) rfl)).1) oc_nil))) rfl rfl) ?_
      clear hF; intro a hF
      refine gQ 14 rfl rfl hF hS rfl (ef_storeW ty26 2 rfl rfl rfl rfl bQ (oc_cons (row_one (hS.own _ (List.mem_of_getElem? (i := 1) rfl)).1) (oc_cons (row_one (hS.own _ (List.mem_of_getElem? (i := 0) rfl)).1) (oc_cons (row_one (hS.own _ (List.mem_of_getElem? (i := 3) rfl)).1) oc_nil))) bQ) ?_
      clear hF hS; rintro _ _ _ a w ⟨rfl, rfl, rfl⟩ hF hS
      refine ⟨⟨iQ, iQ, iQ, iQ, iQ, iQ, iQ, trivial⟩, ?_⟩
      exact goW_done kQ (j7_mk v_1_0 v_1_3 v_1_4 v_1_7 v_1_8 v_1_11 b_1_13 (trivial) (hF.sub (L' := [(1, _), (2, _), (6, _), (7, _)]) ⟨rfl, rfl, rfl, rfl, trivial⟩) ((((hS.perm (.cons _ (.swap _ _ _))).perm (.swap _ _ _)).perm (.cons _ (.cons _ (.swap _ _ _)))).perm (.cons _ (.swap _ _ _))))
    ·refine stepW_ef _ rfl rfl hF hS rfl (ef_bslice0 ty22 ty3) ?_
     clear hF hS; rintro v_1_4 _ _ a w ⟨rfl, rfl⟩ hF hS
     refine ⟨⟨.inr (hS.k1 (sQ.n.n.n.n)), .inr hS.k0, .inr (hS.k1 (sQ.n.n.n.n)), .inr hS.k0, .inr (hS.k1 (sQ.n.n.n.n)), .inr hS.k0, trivial⟩, ?_⟩
     refine gQ 0 rfl rfl hF hS rfl (ef_bslice0 ty23 ty83) ?_
     clear hF hS; rintro v_1_0 _ _ a w ⟨rfl, rfl⟩ hF hS
     refine ⟨⟨.inr (hS.k1 (sQ.n.n.n.n.n)), .inr hS.k0, .inr (hS.k1 (sQ.n.n.n.n.n)), .inr hS.k0, .inr (hS.k1 (sQ.n.n.n.n.n)), .inr hS.k0, trivial⟩, ?_⟩
     refine gQ 3 rfl rfl hF hS rfl (ef_append ty23 ty83 0 rfl rfl rfl (src_slC ty23 hxn zin0 (by decide)) bQ rfl (by decide)) ?_
     clear hF hS; rintro v_1_3 _ _ a w ⟨rfl, rfl⟩ hF hS
     refine ⟨⟨.inr (hS.k1 (sQ.n.n.n.n.n)), .inr hS.k0, .inr (hS.k1 (sQ.n.n.n.n.n)), .inr hS.k0, iQ, iQ, trivial⟩, ?_⟩
     refine gQ 7 rfl rfl hF hS rfl (ef_append ty22 ty3 1 rfl rfl rfl (src_slV ty22 hxs zin0) bQ rfl (by decide)) ?_
     clear hF hS; rintro v_1_7 _ _ a w ⟨rfl, rfl⟩ hF hS
     refine ⟨⟨.inr (hS.k1 (sQ.n.n.n.n.n)), .inr hS.k0, iQ, iQ, iQ, iQ, trivial⟩, ?_⟩
     refine gQ 11 rfl rfl hF hS rfl (ef_append ty24 ty4 3 rfl rfl rfl (src_slV ty24 hxb zin0) bQ rfl (by decide)) ?_
     clear hF hS; rintro v_1_11 _ _ a w ⟨rfl, rfl⟩ hF hS
     refine ⟨⟨iQ, iQ, iQ, iQ, iQ, iQ, trivial⟩, ?_⟩
     refine goW_take 12 _ rfl kQ rfl hF (hS.keep sQ (zQ.k.n.k.k)) (q_buildS1 ty26 3 kQ rfl rfl (oc_cons (row_one (hS.own _ (List.mem_of_getElem? (i := 0) rfl)).1) (oc_cons (row_one (hS.own _ (List.mem_of_getElem? (i := 1) rfl)).1) (oc_cons (row_one (hS.own _ (List.mem_of_getElem? (i := 3) rfl)).1) oc_nil))) rfl rfl) ?_
     clear hF; intro a hF
     refine gQ 14 rfl rfl hF hS rfl (ef_storeW ty26 2 rfl rfl rfl rfl bQ (oc_cons (row_one (hS.own _ (List.mem_of_getElem? (i := 0) rfl)).1) (oc_cons (row_one (hS.own _ (List.mem_of_getElem? (i := 1) rfl)).1) (oc_cons (row_one (hS.own _ (List.mem_of_getElem? (i := 3) rfl)).1) oc_nil))) bQ) ?_
     clear hF hS; rintro _ _ _ a w ⟨rfl, rfl, rfl⟩ hF hS
     refine ⟨⟨iQ, iQ, iQ, iQ, iQ, iQ, iQ, trivial⟩, ?_⟩
     exact goW_done kQ (j7_mk v_1_0 v_1_3 v_1_4 v_1_7 v_1_8 v_1_11 b_1_13 (trivial) (hF.sub (L' := [(1, _), (2, _), (6, _), (7, _)]) ⟨rfl, rfl, rfl, rfl, trivial⟩) (((((hS.perm (.cons _ (.swap _ _ _))).perm (.swap _ _ _)).perm (.cons _ (.cons _ (.swap _ _ _)))).perm (.cons _ (.swap _ _ _))).perm (.cons _ (.cons _ (.swap _ _ _)))))
  ·refine stepW_ef _ rfl rfl hF hS rfl (ef_allocA ty26) ?_
   clear hF hS; rintro _ _ _ a w ⟨b_1_13, rfl, rfl, rfl⟩ hF hS
   refine ⟨⟨.inr (hS.k1 (sQ.n.n)), .inr hS.k0, .inr (hS.k1 (sQ.n.n)), .inr hS.k0, .inr (hS.k1 (sQ.n.n)), .inr hS.k0, trivial⟩, ?_⟩
   refine goW_fork [0, 4, 8] kQ rfl ⟨?_, ?_, ?_, trivial⟩
   ·refine stepW_ef _ rfl rfl hF hS rfl (ef_bslice0 ty23 ty83) ?_
    clear hF hS; rintro v_1_0 _ _ a w ⟨rfl, rfl⟩ hF hS
    refine ⟨⟨.inr (hS.k1 (sQ.n.n.n)), .inr hS.k0, .inr (hS.k1 (sQ.n.n.n)), .inr hS.k0, .inr (hS.k1 (sQ.n.n.n)), .inr hS.k0, trivial⟩, ?_⟩
    refine goW_fork [3, 4, 8] kQ rfl ⟨?_, ?_, ?_, trivial⟩
    ·refine stepW_ef _ rfl rfl hF hS rfl (ef_append ty23 ty83 0 rfl rfl rfl (src_slC ty23 hxn zin0 (by decide)) bQ rfl (by decide)) ?_
     clear hF hS; rintro v_1_3 _ _ a w ⟨rfl, rfl⟩ hF hS
     refine ⟨⟨.inr (hS.k1 (sQ.n.n.n)), .inr hS.k0, .inr (hS.k1 (sQ.n.n.n)), .inr hS.k0, iQ, iQ, trivial⟩, ?_⟩
     refine goW_fork [4, 8] kQ rfl ⟨?_, ?_, trivial⟩
     ·refine stepW_ef _ rfl rfl hF hS rfl (ef_bslice0 ty22 ty3) ?_
      clear hF hS; rintro v_1_4 _ _ a w ⟨rfl, rfl⟩ hF hS
      refine ⟨⟨.inr (hS.k1 (sQ.n.n.n.n)), .inr hS.k0, .inr (hS.k1 (sQ.n.n.n.n)), .inr hS.k0, iQ, iQ, trivial⟩, ?_⟩
      refine goW_fork [7, 8] kQ rfl ⟨?_, ?_, trivial⟩
      ·refine stepW_ef _ rfl rfl hF hS rfl (ef_append ty22 ty3 0 rfl rfl rfl (src_slV ty22 hxs zin0) bQ rfl (by decide)) ?_
       clear hF hS; rintro v_1_7 _ _ a w ⟨rfl, rfl⟩ hF hS
       refine ⟨⟨.inr (hS.k1 (sQ.n.n.n.n)), .inr hS.k0, iQ, iQ, iQ, iQ, trivial⟩, ?_⟩
       refine gQ 8 rfl rfl hF hS rfl (ef_bslice0 ty24 ty4) ?_
       clear hF hS; rintro v_1_8 _ _ a w ⟨rfl, rfl⟩ hF hS
       refine ⟨⟨.inr (hS.k1 (sQ.n.n.n.n.n)), .inr hS.k0, iQ, iQ, iQ, iQ, trivial⟩, ?_⟩
       refine gQ 11 rfl rfl hF hS rfl (ef_append ty24 ty4 0 rfl rfl rfl (src_slV ty24 hxb zin0) bQ rfl (by decide)) ?_
       clear hF hS; rintro v_1_11 _ _ a w ⟨rfl, rfl⟩ hF hS
       refine ⟨⟨iQ, iQ, iQ, iQ, iQ, iQ, trivial⟩, ?_⟩
       refine goW_take 12 _ rfl kQ rfl hF (hS.keep sQ (zQ.k.k.k)) (q_buildS1 ty26 3 kQ rfl rfl (oc_cons (row_one (hS.own _ (List.mem_of_getElem? (i := 2) rfl)).1) (oc_cons (row_one (hS.own _ (List.mem_of_getElem? (i := 1) rfl)).1) (oc_cons (row_one (hS.own _ (List.mem_of_getElem? (i := 0) rfl)).1) oc_nil))) rfl rfl) ?_
       clear hF; intro a hF
       refine gQ 14 rfl rfl hF hS rfl (ef_storeW ty26 3 rfl rfl rfl rfl bQ (oc_cons (row_one (hS.own _ (List.mem_of_getElem? (i := 2) rfl)).1) (oc_cons (row_one (hS.own _ (List.mem_of_getElem? (i := 1) rfl)).1) (oc_cons (row_one (hS.own _ (List.mem_of_getElem? (i := 0) rfl)).1) oc_nil))) bQ) ?_
       clear hF hS; rintro _ _ _ a w ⟨rfl, rfl, rfl⟩ hF hS
       refine ⟨⟨iQ, iQ, iQ, iQ, iQ, iQ, iQ, trivial⟩, ?_⟩
       exact goW_done kQ (j7_mk v_1_0 v_1_3 v_1_4 v_1_7 v_1_8 v_1_11 b_1_13 (trivial) (hF.sub (L' := [(1, _), (2, _), (6, _), (7, _)]) ⟨rfl, rfl, rfl, rfl, trivial⟩) (((hS.perm (.cons _ (.cons _ (.swap _ _ _)))).perm (.cons _ (.swap _ _ _))).perm (.swap _ _ _)))
      ·refine stepW_ef _ rfl rfl hF hS rfl (ef_bslice0 ty24 ty4) ?_
       clear hF hS; rintro v_1_8 _ _ a w ⟨rfl, rfl⟩ hF hS
       refine ⟨⟨.inr (hS.k1 (sQ.n.n.n.n.n)), .inr hS.k0, .inr (hS.k1 (sQ.n.n.n.n.n)), .inr hS.k0, iQ, iQ, trivial⟩, ?_⟩
       refine gQ 7 rfl rfl hF hS rfl (ef_append ty22 ty3 1 rfl rfl rfl (src_slV ty22 hxs zin0) bQ rfl (by decide)) ?_
       clear hF hS; rintro v_1_7 _ _ a w ⟨rfl, rfl⟩ hF hS
       refine ⟨⟨.inr (hS.k1 (sQ.n.n.n.n.n)), .inr hS.k0, iQ, iQ, iQ, iQ, trivial⟩, ?_⟩
       refine gQ 11 rfl rfl hF hS rfl (ef_append ty24 ty4 0 rfl rfl rfl (src_slV ty24 hxb zin0) bQ rfl (by decide)) ?_
       clear hF hS; rintro v_1_11 _ _ a w ⟨rfl, rfl⟩ hF hS
       refine ⟨⟨iQ, iQ, iQ, iQ, iQ, iQ, trivial⟩, ?_⟩
       refine goW_take 12 _ rfl kQ rfl hF (hS.keep sQ (zQ.k.k.k)) (q_buildS1 ty26 3 kQ rfl rfl (oc_cons (row_one (hS.own _ (List.mem_of_getElem? (i := 2) rfl)).1) (oc_cons (row_one (hS.own _ (List.mem_of_getElem? (i := 1) rfl)).1) (oc_cons (row_one (hS.own _ (List.mem_of_getElem? (i := 0) rfl)).1) oc_nil))) rfl rfl) ?_
       clear hF; intro a hF
       refine gQ 14 rfl rfl hF hS rfl (ef_storeW ty26 3 rfl rfl rfl rfl bQ (oc_cons (row_one (hS.own _ (List.mem_of_getElem? (i := 2) rfl)).1) (oc_cons (row_one (hS.own _ (List.mem_of_getElem? (i := 1) rfl)).1) (oc_cons (row_one (hS.own _ (List.mem_of_getElem? (i := 0) rfl)).1) oc_nil))) bQ) ?_
       clear hF hS; rintro _ _ _ a w ⟨rfl, rfl, rfl⟩ hF hS
       refine ⟨⟨iQ, iQ, iQ, iQ, iQ, iQ, iQ, trivial⟩, ?_⟩
       exact goW_done kQ (j7_mk v_1_0 v_1_3 v_1_4 v_1_7 v_1_8 v_1_11 b_1_13 (trivial) (hF.sub (L' := [(1, _), (2, _), (6, _), (7, _)]) ⟨rfl, rfl, rfl, rfl, trivial⟩) (((hS.perm (.cons _ (.cons _ (.swap _ _ _)))).perm (.cons _ (.swap _ _ _))).perm (.swap _ _ _)))
     ·refine stepW_ef _ rfl rfl hF hS rfl (ef_bslice0 ty24 ty4) ?_
      clear hF hS; rintro v_1_8 _ _ a w ⟨rfl, rfl⟩ hF hS
      refine ⟨⟨.inr (hS.k1 (sQ.n.n.n.n)), .inr hS.k0, .inr (hS.k1 (sQ.n.n.n.n)), .inr hS.k0, iQ, iQ, trivial⟩, ?_⟩
      refine gQ 4 rfl rfl hF hS rfl (ef_bslice0 ty22 ty3) ?_
      clear hF hS; rintro v_1_4 _ _ a w ⟨rfl, rfl⟩ hF hS
      refine ⟨⟨.inr (hS.k1 (sQ.n.n.n.n.n)), .inr hS.k0, .inr (hS.k1 (sQ.n.n.n.n.n)), .inr hS.k0, iQ, iQ, trivial⟩, ?_⟩
      refine gQ 7 rfl rfl hF hS rfl (ef_append ty22 ty3 0 rfl rfl rfl (src_slV ty22 hxs zin0) bQ rfl (by decide)) ?_
      clear hF hS; rintro v_1_7 _ _ a w ⟨rfl, rfl⟩ hF hS
      refine ⟨⟨.inr (hS.k1 (sQ.n.n.n.n.n)), .inr hS.k0, iQ, iQ, iQ, iQ, trivial⟩, ?_⟩
      refine gQ 11 rfl rfl hF hS rfl (ef_append ty24 ty4 1 rfl rfl rfl (src_slV ty24 hxb zin0) bQ rfl (by decide)) ?_
      clear hF hS; rintro v_1_11 _ _ a w ⟨rfl, rfl⟩ hF hS
      refine ⟨⟨iQ, iQ, iQ, iQ, iQ, iQ, trivial⟩, ?_⟩
      refine goW_take 12 _ rfl kQ rfl hF (hS.keep sQ (zQ.k.k.k)) (q_buildS1 ty26 3 kQ rfl rfl (oc_cons (row_one (hS.own _ (List.mem_of_getElem? (i := 2) rfl)).1) (oc_cons (row_one (hS.own _ (List.mem_of_getElem? (i := 0) rfl)).1) (oc_cons (row_one (hS.own _ (List.mem_of_getElem? (i := 1) rfl)).1) oc_nil))) rfl rfl) ?_
      clear hF; intro a hF
      refine gQ 14 rfl rfl hF hS rfl (ef_storeW ty26 3 rfl rfl rfl rfl bQ (oc_cons (row_one (hS.own _ (List.mem_of_getElem? (i := 2) rfl)).1) (oc_cons (row_one (hS.own _ (List.mem_of_getElem? (i := 0) rfl)).1) (oc_cons (row_one (hS.own _ (List.mem_of_getElem? (i := 1) rfl)).1) oc_nil))) bQ) ?_
      clear hF hS; rintro _ _ _ a w ⟨rfl, rfl, rfl⟩ hF hS
      refine ⟨⟨iQ, iQ, iQ, iQ, iQ, iQ, iQ, trivial⟩, ?_⟩
      exact goW_done kQ (j7_mk v_1_0 v_1_3 v_1_4 v_1_7 v_1_8 v_1_11 b_1_13 (trivial) (hF.sub (L' := [(1, _), (2, _), (6, _), (7, _)]) ⟨rfl, rfl, rfl, rfl, trivial⟩) ((((hS.perm (.cons _ (.cons _ (.swap _ _ _)))).perm (.cons _ (.swap _ _ _))).perm (.swap _ _ _)).perm (.cons _ (.swap _ _ _))))
    ·refine stepW_ef _ rfl rfl hF hS rfl (ef_bslice0 ty22 ty3) ?_
     clear hF hS; rintro v_1_4 _ _ a w ⟨rfl, rfl⟩ hF hS
     refine ⟨⟨.inr (hS.k1 (sQ.n.n.n.n)), .inr hS.k0, .inr (hS.k1 (sQ.n.n.n.n)), .inr hS.k0, .inr (hS.k1 (sQ.n.n.n.n)), .inr hS.k0, trivial⟩, ?_⟩
     refine goW_fork [3, 8] kQ rfl ⟨?_, ?_, trivial⟩
     ·refine stepW_ef _ rfl rfl hF hS rfl (ef_append ty23 ty83 1 rfl rfl rfl (src_slC ty23 hxn zin0 (by decide)) bQ rfl (by decide)) ?_
      clear hF hS; rintro v_1_3 _ _ a w ⟨rfl, rfl⟩ hF hS
      refine ⟨⟨.inr (hS.k1 (sQ.n.n.n.n)), .inr hS.k0, .inr (hS.k1 (sQ.n.n.n.n)), .inr hS.k0, iQ, iQ, trivial⟩, ?_⟩
      refine goW_fork [7, 8] kQ rfl ⟨?_, ?_, trivial⟩
      ·refine stepW_ef _ rfl rfl hF hS rfl (ef_append ty22 ty3 0 rfl rfl rfl (src_slV ty22 hxs zin0) bQ rfl (by decide)) ?_
       clear hF hS; rintro v_1_7 _ _ a w ⟨rfl, rfl⟩ hF hS
       refine ⟨⟨.inr (hS.k1 (sQ.n.n.n.n)), .inr hS.k0, iQ, iQ, iQ, iQ, trivial⟩, ?_⟩
       refine gQ 8 rfl rfl hF hS rfl (ef_bslice0 ty24 ty4) ?_
       clear hF hS; rintro v_1_8 _ _ a w ⟨rfl, rfl⟩ hF hS
       refine ⟨⟨.inr (hS.k1 (sQ.n.n.n.n.n)), .inr hS.k0, iQ, iQ, iQ, iQ, trivial⟩, ?_⟩
       refine gQ 11 rfl rfl hF hS rfl (ef_append ty24 ty4 0 rfl rfl rfl (src_slV ty24 hxb zin0) bQ rfl (by decide)) ?_
       clear hF hS; rintro v_1_11 _ _ a w ⟨rfl, rfl⟩ hF hS
       refine ⟨⟨iQ, iQ, iQ, iQ, iQ, iQ, trivial⟩, ?_⟩
       refine goW_take 12 _ rfl kQ rfl hF (hS.keep sQ (zQ.k.k.k)) (q_buildS1 ty26 3 kQ rfl rfl (oc_cons (row_one (hS.own _ (List.mem_of_getElem? (i := 2) rfl)).1) (oc_cons (row_one (hS.own _ (List.mem_of_getElem? (i := 1) rfl)).1) (oc_cons (row_one (hS.own _ (List.mem_of_getElem? (i := 0) rfl)).1) oc_nil))) rfl rfl) ?_
       clear hF; intro a hF
       refine gQ 14 rfl rfl hF hS rfl (ef_storeW ty26 3 rfl rfl rfl rfl bQ (oc_cons (row_one (hS.own _ (List.mem_of_getElem? (i := 2) rfl)).1) (oc_cons (row_one (hS.own _ (List.mem_of_getElem? (i := 1) rfl)).1) (oc_cons (row_one (hS.own _ (List.mem_of_getElem? (i := 0) rfl)).1) oc_nil))) bQ) ?_
       clear hF hS; rintro _ _ _ a w ⟨rfl, rfl, rfl⟩ hF hS
       refine ⟨⟨iQ, iQ, iQ, iQ, iQ, iQ, iQ, trivial⟩, ?_⟩
       exact goW_done kQ (j7_mk v_1_0 v_1_3 v_1_4 v_1_7 v_1_8 v_1_11 b_1_13 (trivial) (hF.sub (L' := [(1, _), (2, _), (6, _), (7, _)]) ⟨rfl, rfl, rfl, rfl, trivial⟩) (((hS.perm (.cons _ (.cons _ (.swap _ _ _)))).perm (.cons _ (.swap _ _ _))).perm (.swap _ _ _)))
      ·refine stepW_ef _ rfl rfl hF hS rfl (ef_bslice0 ty24 ty4) ?_
       clear hF hS; rintro v_1_8 _ _ a w ⟨rfl, rfl⟩ hF hS
       refine ⟨⟨.inr (hS.k1 (sQ.n.n.n.n.n)), .inr hS.k0, .inr (hS.k1 (sQ.n.n.n.n.n)), .inr hS.k0, iQ, iQ, trivial⟩, ?_⟩
       refine gQ 7 rfl rfl hF hS rfl (ef_append ty22 ty3 1 rfl rfl rfl (src_slV ty22 hxs zin0) bQ rfl (by decide)) ?_
       clear hF hS; rintro v_1_7 _ _ a w ⟨rfl, rfl⟩ hF hS
       refine ⟨⟨.inr (hS.k1 (sQ.n.n.n.n.n)), .inr hS.k0, iQ, iQ, iQ, iQ, trivial⟩, ?_⟩
       refine gQ 11 rfl rfl hF hS rfl (ef_append ty24 ty4 0 rfl rfl rfl (src_slV ty24 hxb zin0) bQ rfl (by decide)) ?_
       clear hF hS; rintro v_1_11 _ _ a w ⟨rfl, rfl⟩ hF hS
       refine ⟨⟨iQ, iQ, iQ, iQ, iQ, iQ, trivial⟩, ?_⟩
       refine goW_take 12 _ rfl kQ rfl hF (hS.keep sQ (zQ.k.k.k)) (q_buildS1 ty26 3 kQ rfl rfl (oc_cons (row_one (hS.own _ (List.mem_of_getElem? (i := 2) rfl)).1) (oc_cons (row_one (hS.own _ (List.mem_of_getElem? (i := 1) rfl)).1) (oc_cons (row_one (hS.own _ (List.mem_of_getElem? (i := 0) rfl)).1) oc_nil))) rfl rfl) ?_
       clear hF; intro a hF
       refine gQ 14 rfl rfl hF hS rfl (ef_storeW ty26 3 rfl rfl rfl rfl bQ (oc_cons (row_one (hS.own _ (List.mem_of_getElem? (i := 2) rfl)).1) (oc_cons (row_one (hS.own _ (List.mem_of_getElem? (i := 1) rfl)).1) (oc_cons (row_one (hS.own _ (List.mem_of_getElem? (i := 0) rfl)).1) oc_nil))) bQ) ?_
       clear hF hS; rintro _ _ _ a w ⟨rfl, rfl, rfl⟩ hF hS
       refine ⟨⟨iQ, iQ, iQ, iQ, iQ, iQ, iQ, trivial⟩, ?_⟩
       exact goW_done kQ (j7_mk v_1_0 v_1_3 v_1_4 v_1_7 v_1_8 v_1_11 b_1_13 (trivial) (hF.sub (L' := [(1, _), (2, _), (6, _), (7, _)]) ⟨rfl, rfl, rfl, rfl, trivial⟩) (((hS.perm (.cons _ (.cons _ (.swap _ _ _)))).perm (.cons _ (.swap _ _ _))).perm (.swap _ _ _)))
     ·refine stepW_ef _ rfl rfl hF hS rfl (ef_bslice0 ty24 ty4) ?_
      clear hF hS; rintro v_1_8 _ _ a w ⟨rfl, rfl⟩ hF hS
      refine ⟨⟨.inr (hS.k1 (sQ.n.n.n.n.n)), .inr hS.k0, .inr (hS.k1 (sQ.n.n.n.n.n)), .inr hS.k0, .inr (hS.k1 (sQ.n.n.n.n.n)), .inr hS.k0, trivial⟩, ?_⟩
      refine gQ 3 rfl rfl hF hS rfl (ef_append ty23 ty83 2 rfl rfl rfl (src_slC ty23 hxn zin0 (by decide)) bQ rfl (by decide)) ?_
      clear hF hS; rintro v_1_3 _ _ a w ⟨rfl, rfl⟩ hF hS
      refine ⟨⟨.inr (hS.k1 (sQ.n.n.n.n.n)), .inr hS.k0, .inr (hS.k1 (sQ.n.n.n.n.n)), .inr hS.k0, iQ, iQ, trivial⟩, ?_⟩
      refine gQ 7 rfl rfl hF hS rfl (ef_append ty22 ty3 1 rfl rfl rfl (src_slV ty22 hxs zin0) bQ rfl (by decide)) ?_
      clear hF hS; rintro v_1_7 _ _ a w ⟨rfl, rfl⟩ hF hS
      refine ⟨⟨.inr (hS.k1 (sQ.n.n.n.n.n)), .inr hS.k0, iQ, iQ, iQ, iQ, trivial⟩, ?_⟩
      refine gQ 11 rfl rfl hF hS rfl (ef_append ty24 ty4 0 rfl rfl rfl (src_slV ty24 hxb zin0) bQ rfl (by decide)) ?_
      clear hF hS; rintro v_1_11 _ _ a w ⟨rfl, rfl⟩ hF hS
      refine ⟨⟨iQ, iQ, iQ, iQ, iQ, iQ, trivial⟩, ?_⟩
      refine goW_take 12 _ rfl kQ rfl hF (hS.keep sQ (zQ.k.k.k)) (q_buildS1 ty26 3 kQ rfl rfl (oc_cons (row_one (hS.own _ (List.mem_of_getElem? (i := 2) rfl)).1) (oc_cons (row_one (hS.own _ (List.mem_of_getElem? (i := 1) rfl)).1) (oc_cons (row_one (hS.own _ (List.mem_of_getElem? (i := 0) rfl)).1) oc_nil))) rfl rfl) ?_
      clear hF; intro a hF
      refine gQ 14 rfl rfl hF hS rfl (ef_storeW ty26 3 rfl rfl rfl rfl bQ (oc_cons (row_one (hS.own _ (List.mem_of_getElem? (i := 2) rfl)).1) (oc_cons (row_one (hS.own _ (List.mem_of_getElem? (i := 1) rfl)).1) (oc_cons (row_one (hS.own _ (List.mem_of_getElem? (i := 0) rfl)).1) oc_nil))) bQ) ?_
      clear hF hS; rintro _ _ _ a w ⟨rfl, rfl, rfl⟩ hF hS
      refine ⟨⟨iQ, iQ, iQ, iQ, iQ, iQ, iQ, trivial⟩, ?_⟩
      exact goW_done kQ (j7_mk v_1_0 v_1_3 v_1_4 v_1_7 v_1_8 v_1_11 b_1_13 (trivial) (hF.sub (L' := [(1, _), (2, _), (6, _), (7, _)]) ⟨rfl, rfl, rfl, rfl, trivial⟩) (((hS.perm (.cons _ (.cons _ (.swap _ _ _)))).perm (.cons _ (.swap _ _ _))).perm (.swap _ _ _)))
    ·refine stepW_ef _ rfl rfl hF hS rfl (ef_bslice0 ty24 ty4) ?_
     clear hF hS; rintro v_1_8 _ _ a w ⟨rfl, rfl⟩ hF hS
     refine ⟨⟨.inr (hS.k1 (sQ.n.n.n.n)), .inr hS.k0, .inr (hS.k1 (sQ.n.n.n.n)), .inr hS.k0, .inr (hS.k1 (sQ.n.n.n.n)), .inr hS.k0, trivial⟩, ?_⟩
     refine goW_fork [3, 4] kQ rfl ⟨?_, ?_, trivial⟩
     ·refine stepW_ef _ rfl rfl hF hS rfl (ef_append ty23 ty83 1 rfl rfl rfl (src_slC ty23 hxn zin0 (by decide)) bQ rfl (by decide)) ?_
      clear hF hS; rintro v_1_3 _ _ a w ⟨rfl, rfl⟩ hF hS
      refine ⟨⟨.inr (hS.k1 (sQ.n.n.n.n)), .inr hS.k0, .inr (hS.k1 (sQ.n.n.n.n)), .inr hS.k0, iQ, iQ, trivial⟩, ?_⟩
      refine gQ 4 rfl rfl hF hS rfl (ef_bslice0 ty22 ty3) ?_
      clear hF hS; rintro v_1_4 _ _ a w ⟨rfl, rfl⟩ hF hS
      refine ⟨⟨.inr (hS.k1 (sQ.n.n.n.n.n)), .inr hS.k0, .inr (hS.k1 (sQ.n.n.n.n.n)), .inr hS.k0, iQ, iQ, trivial⟩, ?_⟩
      refine gQ 7 rfl rfl hF hS rfl (ef_append ty22 ty3 0 rfl rfl rfl (src_slV ty22 hxs zin0) bQ rfl (by decide)) ?_
      clear hF hS; rintro v_1_7 _ _ a w ⟨rfl, rfl⟩ hF hS
      refine ⟨⟨.inr (hS.k1 (sQ.n.n.n.n.n)), .inr hS.k0, iQ, iQ, iQ, iQ, trivial⟩, ?_⟩
      refine gQ 11 rfl rfl hF hS rfl (ef_append ty24 ty4 1 rfl rfl rfl (src_slV ty24 hxb zin0) bQ rfl (by decide)) ?_
      clear hF hS; rintro v_1_11 _ _ a w ⟨rfl, rfl⟩ hF hS
      refine ⟨⟨iQ, iQ, iQ, iQ, iQ, iQ, trivial⟩, ?_⟩
      refine goW_take 12 _ rfl kQ rfl hF (hS.keep sQ (zQ.k.k.k)) (q_buildS1 ty26 3 kQ rfl rfl (oc_cons (row_one (hS.own _ (List.mem_of_getElem? (i := 2) rfl)).1) (oc_cons (row_one (hS.own _ (List.mem_of_getElem? (i := 0) rfl)).1) (oc_cons (row_one (hS.own _ (List.mem_of_getElem? (i := 1) rfl)).1) oc_nil))) rfl rfl) ?_
      clear hF; intro a hF
      refine gQ 14 rfl rfl hF hS rfl (ef_storeW ty26 3 rfl rfl rfl rfl bQ (oc_cons (row_one (hS.own _ (List.mem_of_getElem? (i := 2) rfl)).1) (oc_cons (row_one (hS.own _ (List.mem_of_getElem? (i := 0) rfl)).1) (oc_cons (row_one (hS.own _ (List.mem_of_getElem? (i := 1) rfl)).1) oc_nil))) bQ) ?_
      clear hF hS; rintro _ _ _ a w ⟨rfl, rfl, rfl⟩ hF hS
      refine ⟨⟨iQ, iQ, iQ, iQ, iQ, iQ, iQ, trivial⟩, ?_⟩
      exact goW_done kQ (j7_mk v_1_0 v_1_3 v_1_4 v_1_7 v_1_8 v_1_11 b_1_13 (trivial) (hF.sub (L' := [(1, _), (2, _), (6, _), (7, _)]) ⟨rfl, rfl, rfl, rfl, trivial⟩) ((((hS.perm (.cons _ (.cons _ (.swap _ _ _)))).perm (.cons _ (.swap _ _ _))).perm (.swap _ _ _)).perm (.cons _ (.swap _ _ _))))
     ·refine stepW_ef _ rfl rfl hF hS rfl (ef_bslice0 ty22 ty3) ?_
      clear hF hS; rintro v_1_4 _ _ a w ⟨rfl, rfl⟩ hF hS
      refine ⟨⟨.inr (hS.k1 (sQ.n.n.n.n.n)), .inr hS.k0, .inr (hS.k1 (sQ.n.n.n.n.n)), .inr hS.k0, .inr (hS.k1 (sQ.n.n.n.n.n)), .inr hS.k0, trivial⟩, ?_⟩
      refine gQ 3 rfl rfl hF hS rfl (ef_append ty23 ty83 2 rfl rfl rfl (src_slC ty23 hxn zin0 (by decide)) bQ rfl (by decide)) ?_
      clear hF hS; rintro v_1_3 _ _ a w ⟨rfl, rfl⟩ hF hS
      refine ⟨⟨.inr (hS.k1 (sQ.n.n.n.n.n)), .inr hS.k0, .inr (hS.k1 (sQ.n.n.n.n.n)), .inr hS.k0, iQ, iQ, trivial⟩, ?_⟩
      refine gQ 7 rfl rfl hF hS rfl (ef_append ty22 ty3 0 rfl rfl rfl (src_slV ty22 hxs zin0) bQ rfl (by decide)) ?_
      clear hF hS; rintro v_1_7 _ _ a w ⟨rfl, rfl⟩ hF hS
      refine ⟨⟨.inr (hS.k1 (sQ.n.n.n.n.n)), .inr hS.k0, iQ, iQ, iQ, iQ, trivial⟩, ?_⟩
      refine gQ 11 rfl rfl hF hS rfl (ef_append ty24 ty4 1 rfl rfl rfl (src_slV ty24 hxb zin0) bQ rfl (by decide)) ?_
      clear hF hS; rintro v_1_11 _ _ a w ⟨rfl, rfl⟩ hF hS
      refine ⟨⟨iQ, iQ, iQ, iQ, iQ, iQ, trivial⟩, ?_⟩
      refine goW_take 12 _ rfl kQ rfl hF (hS.keep sQ (zQ.k.k.k)) (q_buildS1 ty26 3 kQ rfl rfl (oc_cons (row_one (hS.own _ (List.mem_of_getElem? (i := 2) rfl)).1) (oc_cons (row_one (hS.own _ (List.mem_of_getElem? (i := 0) rfl)).1) (oc_cons (row_one (hS.own _ (List.mem_of_getElem? (i := 1) rfl)).1) oc_nil))) rfl rfl) ?_
      clear hF; intro a hF
      refine gQ 14 rfl rfl hF hS rfl (ef_storeW ty26 3 rfl rfl rfl rfl bQ (oc_cons (row_one (hS.own _ (List.mem_of_getElem? (i := 2) rfl)).1) (oc_cons (row_one (hS.own _ (List.mem_of_getElem? (i := 0) rfl)).1) (oc_cons (row_one (hS.own _ (List.mem_of_getElem? (i := 1) rfl)).1) oc_nil))) bQ) ?_
      clear hF hS; rintro _ _ _ a w ⟨rfl, rfl, rfl⟩ hF hS
      refine ⟨⟨iQ, iQ, iQ, iQ, iQ, iQ, iQ, trivial⟩, ?_⟩
      exact goW_done kQ (j7_mk v_1_0 v_1_3 v_1_4 v_1_7 v_1_8 v_1_11 b_1_13 (trivial) (hF.sub (L' := [(1, _), (2, _), (6, _), (7, _)]) ⟨rfl, rfl, rfl, rfl, trivial⟩) ((((hS.perm (.cons _ (.cons _ (.swap _ _ _)))).perm (.cons _ (.swap _ _ _))).perm (.swap _ _ _)).perm (.cons _ (.swap _ _ _))))
   ·refine stepW_ef _ rfl rfl hF hS rfl (ef_bslice0 ty22 ty3) ?_
    clear hF hS; rintro v_1_4 _ _ a w ⟨rfl, rfl⟩ hF hS
    refine ⟨⟨.inr (hS.k1 (sQ.n.n.n)), .inr hS.k0, .inr (hS.k1 (sQ.n.n.n)), .inr hS.k0, .inr (hS.k1 (sQ.n.n.n)), .inr hS.k0, trivial⟩, ?_⟩
    refine goW_fork [0, 8] kQ rfl ⟨?_, ?_, trivial⟩
    ·refine stepW_ef _ rfl rfl hF hS rfl (ef_bslice0 ty23 ty83) ?_
     clear hF hS; rintro v_1_0 _ _ a w ⟨rfl, rfl⟩ hF hS
     refine ⟨⟨.inr (hS.k1 (sQ.n.n.n.n)), .inr hS.k0, .inr (hS.k1 (sQ.n.n.n.n)), .inr hS.k0, .inr (hS.k1 (sQ.n.n.n.n)), .inr hS.k0, trivial⟩, ?_⟩
     refine goW_fork [3, 8] kQ rfl ⟨?_, ?_, trivial⟩
     ·refine stepW_ef _ rfl rfl hF hS rfl (ef_append ty23 ty83 0 rfl rfl rfl (src_slC ty23 hxn zin0 (by decide)) bQ rfl (by decide)) ?_
      clear hF hS; rintro v_1_3 _ _ a w ⟨rfl, rfl⟩ hF hS
      refine ⟨⟨.inr (hS.k1 (sQ.n.n.n.n)), .inr hS.k0, .inr (hS.k1 (sQ.n.n.n.n)), .inr hS.k0, iQ, iQ, trivial⟩, ?_⟩
      refine goW_fork [7, 8] kQ rfl ⟨?_, ?_, trivial⟩
      ·refine stepW_ef _ rfl rfl hF hS rfl (ef_append ty22 ty3 1 rfl rfl rfl (src_slV ty22 hxs zin0) bQ rfl (by decide)) ?_
       clear hF hS; rintro v_1_7 _ _ a w ⟨rfl, rfl⟩ hF hS
       refine ⟨⟨.inr (hS.k1 (sQ.n.n.n.n)), .inr hS.k0, iQ, iQ, iQ, iQ, trivial⟩, ?_⟩
       refine gQ 8 rfl rfl hF hS rfl (ef_bslice0 ty24 ty4) ?_
       clear hF hS; rintro v_1_8 _ _ a w ⟨rfl, rfl⟩ hF hS
       refine ⟨⟨.inr (hS.k1 (sQ.n.n.n.n.n)), .inr hS.k0, iQ, iQ, iQ, iQ, trivial⟩, ?_⟩
       refine gQ 11 rfl rfl hF hS rfl (ef_append ty24 ty4 0 rfl rfl rfl (src_slV ty24 hxb zin0) bQ rfl (by decide)) ?_
       clear hF hS; rintro v_1_11 _ _ a w ⟨rfl, rfl⟩ hF hS
       refine ⟨⟨iQ, iQ, iQ, iQ, iQ, iQ, trivial⟩, ?_⟩
       refine goW_take 12 _ rfl kQ rfl hF (hS.keep sQ (zQ.k.k.k)) (q_buildS1 ty26 3 kQ rfl rfl (oc_cons (row_one (hS.own _ (List.mem_of_getElem? (i := 1) rfl)).1) (oc_cons (row_one (hS.own _ (List.mem_of_getElem? (i := 2) rfl)).1) (oc_cons (row_one (hS.own _ (List.mem_of_getElem? (i := 0) rfl)).1) oc_nil))) rfl rfl) ?_
       clear hF; intro a hF
       refine gQ 14 rfl rfl hF hS rfl (ef_storeW ty26 3 rfl rfl rfl rfl bQ (oc_cons (row_one (hS.own _ (List.mem_of_getElem? (i := 1) rfl)).1) (oc_cons (row_one (hS.own _ (List.mem_of_getElem? (i := 2) rfl)).1) (oc_cons (row_one (hS.own _ (List.mem_of_getElem? (i := 0) rfl)).1) oc_nil))) bQ) ?_
       clear hF hS; rintro _ _ _ a w ⟨rfl, rfl, rfl⟩ hF hS
       refine ⟨⟨iQ, iQ, iQ, iQ, iQ, iQ, iQ, trivial⟩, ?_⟩
       exact goW_done kQ (j7_mk v_1_0 v_1_3 v_1_4 v_1_7 v_1_8 v_1_11 b_1_13 (trivial) (hF.sub (L' := [(1, _), (2, _), (6, _), (7, _)]) ⟨rfl, rfl, rfl, rfl, trivial⟩) ((((hS.perm (.cons _ (.cons _ (.swap _ _ _)))).perm (.cons _ (.swap _ _ _))).perm (.swap _ _ _)).perm (.cons _ (.cons _ (.swap _ _ _)))))
      ·refine stepW_ef _ rfl rfl hF hS rfl (ef_bslice0 ty24 ty4) ?_
       clear hF hS; rintro v_1_8 _ _ a w ⟨rfl, rfl⟩ hF hS
       refine ⟨⟨.inr (hS.k1 (sQ.n.n.n.n.n)), .inr hS.k0, .inr (hS.k1 (sQ.n.n.n.n.n)), .inr hS.k0, iQ, iQ, trivial⟩, ?_⟩
       refine gQ 7 rfl rfl hF hS rfl (ef_append ty22 ty3 2 rfl rfl rfl (src_slV ty22 hxs zin0) bQ rfl (by decide)) ?_
       clear hF hS; rintro v_1_7 _ _ a w ⟨rfl, rfl⟩ hF hS
       refine ⟨⟨.inr (hS.k1 (sQ.n.n.n.n.n)), .inr hS.k0, iQ, iQ, iQ, iQ, trivial⟩, ?_⟩
       refine gQ 11 rfl rfl hF hS rfl (ef_append ty24 ty4 0 rfl rfl rfl (src_slV ty24 hxb zin0) bQ rfl (by decide)) ?_
       clear hF hS; rintro v_1_11 _ _ a w ⟨rfl, rfl⟩ hF hS
       refine ⟨⟨iQ, iQ, iQ, iQ, iQ, iQ, trivial⟩, ?_⟩
       refine goW_take 12 _ rfl kQ rfl hF (hS.keep sQ (zQ.k.k.k)) (q_buildS1 ty26 3 kQ rfl rfl (oc_cons (row_one (hS.own _ (List.mem_of_getElem? (i := 1) rfl)).1) (oc_cons (row_one (hS.own _ (List.mem_of_getElem? (i := 2) rfl)).1) (oc_cons (row_one (hS.own _ (List.mem_of_getElem? (i := 0) rfl)).1) oc_nil))) rfl rfl) ?_
       clear hF; intro a hF
       refine gQ 14 rfl rfl hF hS rfl (ef_storeW ty26 3 rfl rfl rfl rfl bQ (oc_cons (row_one (hS.own _ (List.mem_of_getElem? (i := 1) rfl)).1) (oc_cons (row_one (hS.own _ (List.mem_of_getElem? (i := 2) rfl)).1) (oc_cons (row_one (hS.own _ (List.mem_of_getElem? (i := 0) rfl)).1) oc_nil))) bQ) ?_
       clear hF hS; rintro _ _ _ a w ⟨rfl, rfl, rfl⟩ hF hS
       refine ⟨⟨iQ, iQ, iQ, iQ, iQ, iQ, iQ, trivial⟩, ?_⟩
       exact goW_done kQ (j7_mk v_1_0 v_1_3 v_1_4 v_1_7 v_1_8 v_1_11 b_1_13 (trivial) (hF.sub (L' := [(1, _), (2, _), (6, _), (7, _)]) ⟨rfl, rfl, rfl, rfl, trivial⟩) ((((hS.perm (.cons _ (.cons _ (.swap _ _ _)))).perm (.cons _ (.swap _ _ _))).perm (.swap _ _ _)).perm (.cons _ (.cons _ (.swap _ _ _)))))
     ·refine stepW_ef _ rfl rfl hF hS rfl (ef_bslice0 ty24 ty4) ?_
      clear hF hS; rintro v_1_8 _ _ a w ⟨rfl, rfl⟩ hF hS
      refine ⟨⟨.inr (hS.k1 (sQ.n.n.n.n.n)), .inr hS.k0, .inr (hS.k1 (sQ.n.n.n.n.n)), .inr hS.k0, .inr (hS.k1 (sQ.n.n.n.n.n)), .inr hS.k0, trivial⟩, ?_⟩
      refine gQ 3 rfl rfl hF hS rfl (ef_append ty23 ty83 1 rfl rfl rfl (src_slC ty23 hxn zin0 (by decide)) bQ rfl (by decide)) ?_
      clear hF hS; rintro v_1_3 _ _ a w ⟨rfl, rfl⟩ hF hS
      refine ⟨⟨.inr (hS.k1 (sQ.n.n.n.n.n)), .inr hS.k0, .inr (hS.k1 (sQ.n.n.n.n.n)), .inr hS.k0, iQ, iQ, trivial⟩, ?_⟩
      refine gQ 7 rfl rfl hF hS rfl (ef_append ty22 ty3 2 rfl rfl rfl (src_slV ty22 hxs zin0) bQ rfl (by decide)) ?_
      clear hF hS; rintro v_1_7 _ _ a w ⟨rfl, rfl⟩ hF hS
      refine ⟨⟨.inr (hS.k1 (sQ.n.n.n.n.n)), .inr hS.k0, iQ, iQ, iQ, iQ, trivial⟩, ?_⟩
      refine gQ 11 rfl rfl hF hS rfl (ef_append ty24 ty4 0 rfl rfl rfl (src_slV ty24 hxb zin0) bQ rfl (by decide)) ?_
      clear hF hS; rintro v_1_11 _ _ a w ⟨rfl, rfl⟩ hF hS
      refine ⟨⟨iQ, iQ, iQ, iQ, iQ, iQ, trivial⟩, ?_⟩
      refine goW_take 12 _ rfl kQ rfl hF (hS.keep sQ (zQ.k.k.k)) (q_buildS1 ty26 3 kQ rfl rfl (oc_cons (row_one (hS.own _ (List.mem_of_getElem? (i := 1) rfl)).1) (oc_cons (row_one (hS.own _ (List.mem_of_getElem? (i := 2) rfl)).1) (oc_cons (row_one (hS.own _ (List.mem_of_getElem? (i := 0) rfl)).1) oc_nil))) rfl rfl) ?_
      clear hF; intro a hF
      refine gQ 14 rfl rfl hF hS rfl (ef_storeW ty26 3 rfl rfl rfl rfl bQ (oc_cons (row_one (hS.own _ (List.mem_of_getElem? (i := 1) rfl)).1) (oc_cons (row_one (hS.own _ (List.mem_of_getElem? (i := 2) rfl)).1) (oc_cons (row_one (hS.own _ (List.mem_of_getElem? (i := 0) rfl)).1) oc_nil))) bQ) ?_
      clear hF hS; rintro _ _ _ a w ⟨rfl, rfl, rfl⟩ hF hS
      refine ⟨⟨iQ, iQ, iQ, iQ, iQ, iQ, iQ, trivial⟩, ?_⟩
      exact goW_done kQ (j7_mk v_1_0 v_1_3 v_1_4 v_1_7 v_1_8 v_1_11 b_1_13 (trivial) (hF.sub (L' := [(1, _), (2, _), (6, _), (7, _)]) ⟨rfl, rfl, rfl, rfl, trivial⟩) ((((hS.perm (.cons _ (.cons _ (.swap _ _ _)))).perm (.cons _ (.swap _ _ _))).perm (.swap _ _ _)).perm (.cons _ (.cons _ (.swap _ _ _)))))
    ·refine stepW_ef _ rfl rfl hF hS rfl (ef_bslice0 ty24 ty4) ?_
     clear hF hS; rintro v_1_8 _ _ a w ⟨rfl, rfl⟩ hF hS
     refine ⟨⟨.inr (hS.k1 (sQ.n.n.n.n)), .inr hS.k0, .inr (hS.k1 (sQ.n.n.n.n)), .inr hS.k0, .inr (hS.k1 (sQ.n.n.n.n)), .inr hS.k0, trivial⟩, ?_⟩
     refine gQ 0 rfl rfl hF hS rfl (ef_bslice0 ty23 ty83) ?_
     clear hF hS; rintro v_1_0 _ _ a w ⟨rfl, rfl⟩ hF hS
     refine ⟨⟨.inr (hS.k1 (sQ.n.n.n.n.n)), .inr hS.k0, .inr (hS.k1 (sQ.n.n.n.n.n)), .inr hS.k0, .inr (hS.k1 (sQ.n.n.n.n.n)), .inr hS.k0, trivial⟩, ?_⟩
     refine gQ 3 rfl rfl hF hS rfl (ef_append ty23 ty83 0 rfl rfl rfl (src_slC ty23 hxn zin0 (by decide)) bQ rfl (by decide)) ?_
     clear hF hS; rintro v_1_3 _ _ a w ⟨rfl, rfl⟩ hF hS
     refine ⟨⟨.inr (hS.k1 (sQ.n.n.n.n.n)), .inr hS.k0, .inr (hS.k1 (sQ.n.n.n.n.n)), .inr hS.k0, iQ, iQ, trivial⟩, ?_⟩
     refine gQ 7 rfl rfl hF hS rfl (ef_append ty22 ty3 2 rfl rfl rfl (src_slV ty22 hxs zin0) bQ rfl (by decide)) ?_
     clear hF hS; rintro v_1_7 _ _ a w ⟨rfl, rfl⟩ hF hS
     refine ⟨⟨.inr (hS.k1 (sQ.n.n.n.n.n)), .inr hS.k0, iQ, iQ, iQ, iQ, trivial⟩, ?_⟩
     refine gQ 11 rfl rfl hF hS rfl (ef_append ty24 ty4 1 rfl rfl rfl (src_slV ty24 hxb zin0) bQ rfl (by decide)) ?_
     clear hF hS; rintro v_1_11 _ _ a w ⟨rfl, rfl⟩ hF hS
     refine ⟨⟨iQ, iQ, iQ, iQ, iQ, iQ, trivial⟩, ?_⟩
     refine goW_take 12 _ rfl kQ rfl hF (hS.keep sQ (zQ.k.k.k)) (q_buildS1 ty26 3 kQ rfl rfl (oc_cons (row_one (hS.own _ (List.mem_of_getElem? (i := 0) rfl)).1) (oc_cons (row_one (hS.own _ (List.mem_of_getElem? (i := 2) rfl)).1) (oc_cons (row_one (hS.own _ (List.mem_of_getElem? (i := 1) rfl)).1) oc_nil))) rfl rfl) ?_
     clear hF; intro a hF
     refine gQ 14 rfl rfl hF hS rfl (ef_storeW ty26 3 rfl rfl rfl rfl bQ (oc_cons (row_one (hS.own _ (List.mem_of_getElem? (i := 0) rfl)).1) (oc_cons (row_one (hS.own _ (List.mem_of_getElem? (i := 2) rfl)).1) (oc_cons (row_one (hS.own _ (List.mem_of_getElem? (i := 1) rfl)).1) oc_nil))) bQ) ?_
     clear hF hS; rintro _ _ _ a w ⟨rfl, rfl, rfl⟩ hF hS
     refine ⟨⟨iQ, iQ, iQ, iQ, iQ, iQ, iQ, trivial⟩, ?_⟩
     exact goW_done kQ (j7_mk v_1_0 v_1_3 v_1_4 v_1_7 v_1_8 v_1_11 b_1_13 (trivial) (hF.sub (L' := [(1, _), (2, _), (6, _), (7, _)]) ⟨rfl, rfl, rfl, rfl, trivial⟩) (((((hS.perm (.cons _ (.cons _ (.swap _ _ _)))).perm (.cons _ (.swap _ _ _))).perm (.swap _ _ _)).perm (.cons _ (.swap _ _ _))).perm (.cons _ (.cons _ (.swap _ _ _)))))
   ·refine stepW_ef _ rfl rfl hF hS rfl (ef_bslice0 ty24 ty4) ?_
    clear hF hS; rintro v_1_8 _ _ a w ⟨rfl, rfl⟩ hF hS
    refine ⟨⟨.inr (hS.k1 (sQ.n.n.n)), .inr hS.k0, .inr (hS.k1 (sQ.n.n.n)), .inr hS.k0, .inr (hS.k1 (sQ.n.n.n)), .inr hS.k0, trivial⟩, ?_⟩
    refine goW_fork [0, 4] kQ rfl ⟨?_, ?_, trivial⟩
    ·refine stepW_ef _ rfl rfl hF hS rfl (ef_bslice0 ty23 ty83) ?_
     clear hF hS; rintro v_1_0 _ _ a w ⟨rfl, rfl⟩ hF hS
     refine ⟨⟨.inr (hS.k1 (sQ.n.n.n.n)), .inr hS.k0, .inr (hS.k1 (sQ.n.n.n.n)), .inr hS.k0, .inr (hS.k1 (sQ.n.n.n.n)), .inr hS.k0, trivial⟩, ?_⟩
     refine goW_fork [3, 4] kQ rfl ⟨?_, ?_, trivial⟩
     ·refine stepW_ef _ rfl rfl hF hS rfl (ef_append ty23 ty83 0 rfl rfl rfl (src_slC ty23 hxn zin0 (by decide)) bQ rfl (by decide)) ?_
      clear hF hS; rintro v_1_3 _ _ a w ⟨rfl, rfl⟩ hF hS
      refine ⟨⟨.inr (hS.k1 (sQ.n.n.n.n)), .inr hS.k0, .inr (hS.k1 (sQ.n.n.n.n)), .inr hS.k0, iQ, iQ, trivial⟩, ?_⟩
      refine gQ 4 rfl rfl hF hS rfl (ef_bslice0 ty22 ty3) ?_
      clear hF hS; rintro v_1_4 _ _ a w ⟨rfl, rfl⟩ hF hS
      refine ⟨⟨.inr (hS.k1 (sQ.n.n.n.n.n)), .inr hS.k0, .inr (hS.k1 (sQ.n.n.n.n.n)), .inr hS.k0, iQ, iQ, trivial⟩, ?_⟩
      refine gQ 7 rfl rfl hF hS rfl (ef_append ty22 ty3 0 rfl rfl rfl (src_slV ty22 hxs zin0) bQ rfl (by decide)) ?_
      clear hF hS; rintro v_1_7 _ _ a w ⟨rfl, rfl⟩ hF hS
      refine ⟨⟨.inr (hS.k1 (sQ.n.n.n.n.n)), .inr hS.k0, iQ, iQ, iQ, iQ, trivial⟩, ?_⟩
      refine gQ 11 rfl rfl hF hS rfl (ef_append ty24 ty4 2 rfl rfl rfl (src_slV ty24 hxb zin0) bQ rfl (by decide)) ?_
      clear hF hS; rintro v_1_11 _ _ a w ⟨rfl, rfl⟩ hF hS
      refine ⟨⟨iQ, iQ, iQ, iQ, iQ, iQ, trivial⟩, ?_⟩
      refine goW_take 12 _ rfl kQ rfl hF (hS.keep sQ (zQ.k.k.k)) (q_buildS1 ty26 3 kQ rfl rfl (oc_cons (row_one (hS.own _ (List.mem_of_getElem? (i := 1) rfl)).1) (oc_cons (row_one (hS.own _ (List.mem_of_getElem? (i := 0) rfl)).1) (oc_cons (row_one (hS.own _ (List.mem_of_getElem? (i := 2) rfl)).1) oc_nil))) rfl rfl) ?_
      clear hF; intro a hF
      refine gQ 14 rfl rfl hF hS rfl (ef_storeW ty26 3 rfl rfl rfl rfl bQ (oc_cons (row_one (hS.own _ (List.mem_of_getElem? (i := 1) rfl)).1) (oc_cons (row_one (hS.own _ (List.mem_of_getElem? (i := 0) rfl)).1) (oc_cons (row_one (hS.own _ (List.mem_of_getElem? (i := 2) rfl)).1) oc_nil))) bQ) ?_
      clear hF hS; rintro _ _ _ a w ⟨rfl, rfl, rfl⟩ hF hS
      refine ⟨⟨iQ, iQ, iQ, iQ, iQ, iQ, iQ, trivial⟩, ?_⟩
      exact goW_done kQ (j7_mk v_1_0 v_1_3 v_1_4 v_1_7 v_1_8 v_1_11 b_1_13 (trivial) (hF.sub (L' := [(1, _), (2, _), (6, _), (7, _)]) ⟨rfl, rfl, rfl, rfl, trivial⟩) (((((hS.perm (.cons _ (.cons _ (.swap _ _ _)))).perm (.cons _ (.swap _ _ _))).perm (.swap _ _ _)).perm (.cons _ (.cons _ (.swap _ _ _)))).perm (.cons _ (.swap _ _ _))))
     ·refine stepW_ef _ rfl rfl hF hS rfl (ef_bslice0 ty22 ty3) ?_
      clear hF hS; rintro v_1_4 _ _ a w ⟨rfl, rfl⟩ hF hS
      refine ⟨⟨.inr (hS.k1 (sQ.n.n.n.n.n)), .inr hS.k0, .inr (hS.k1 (sQ.n.n.n.n.n)), .inr hS.k0, .inr (hS.k1 (sQ.n.n.n.n.n)), .inr hS.k0, trivial⟩, ?_⟩
      refine gQ 3 rfl rfl hF hS rfl (ef_append ty23 ty83 1 rfl rfl rfl (src_slC ty23 hxn zin0 (by decide)) bQ rfl (by decide)) ?_
      clear hF hS; rintro v_1_3 _ _ a w ⟨rfl, rfl⟩ hF hS
      refine ⟨⟨.inr (hS.k1 (sQ.n.n.n.n.n)), .inr hS.k0, .inr (hS.k1 (sQ.n.n.n.n.n)), .inr hS.k0, iQ, iQ, trivial⟩, ?_⟩
      refine gQ 7 rfl rfl hF hS rfl (ef_append ty22 ty3 0 rfl rfl rfl (src_slV ty22 hxs zin0) bQ rfl (by decide)) ?_
      clear hF hS; rintro v_1_7 _ _ a w ⟨rfl, rfl⟩ hF hS
      refine ⟨⟨.inr (hS.k1 (sQ.n.n.n.n.n)), .inr hS.k0, iQ, iQ, iQ, iQ, trivial⟩, ?_⟩
      refine gQ 11 rfl rfl hF hS rfl (ef_append ty24 ty4 2 rfl rfl rfl (src_slV ty24 hxb zin0) bQ rfl (by decide)) ?_
      clear hF hS; rintro v_1_11 _ _ a w ⟨rfl, rfl⟩ hF hS
      refine ⟨⟨iQ, iQ, iQ, iQ, iQ, iQ, trivial⟩, ?_⟩
      refine goW_take 12 _ rfl kQ rfl hF (hS.keep sQ (zQ.k.k.k)) (q_buildS1 ty26 3 kQ rfl rfl (oc_cons (row_one (hS.own _ (List.mem_of_getElem? (i := 1) rfl)).1) (oc_cons (row_one (hS.own _ (List.mem_of_getElem? (i := 0) rfl)).1) (oc_cons (row_one (hS.own _ (List.mem_of_getElem? (i := 2) rfl)).1) oc_nil))) rfl rfl) ?_
      clear hF; intro a hF
      refine gQ 14 rfl rfl hF hS rfl (ef_storeW ty26 3 rfl rfl rfl rfl bQ (oc_cons (row_one (hS.own _ (List.mem_of_getElem? (i := 1) rfl)).1) (oc_cons (row_one (hS.own _ (List.mem_of_getElem? (i := 0) rfl)).1) (oc_cons (row_one (hS.own _ (List.mem_of_getElem? (i := 2) rfl)).1) oc_nil))) bQ) ?_
      clear hF hS; rintro _ _ _ a w ⟨rfl, rfl, rfl⟩ hF hS
      refine ⟨⟨iQ, iQ, iQ, iQ, iQ, iQ, iQ, trivial⟩, ?_⟩
      exact goW_done kQ (j7_mk v_1_0 v_1_3 v_1_4 v_1_7 v_1_8 v_1_11 b_1_13 (trivial) (hF.sub (L' := [(1, _), (2, _), (6, _), (7, _)]) ⟨rfl, rfl, rfl, rfl, trivial⟩) (((((hS.perm (.cons _ (.cons _ (.swap _ _ _)))).perm (.cons _ (.swap _ _ _))).perm (.swap _ _ _)).perm (.cons _ (.cons _ (.swap _ _ _)))).perm (.cons _ (.swap _ _ _))))
    ·refine stepW_ef _ rfl rfl hF hS rfl (ef_bslice0 ty22 ty3) ?_
     clear hF hS; rintro v_1_4 _ _ a w ⟨rfl, rfl⟩ hF hS
     refine ⟨⟨.inr (hS.k1 (sQ.n.n.n.n)), .inr hS.k0, .inr (hS.k1 (sQ.n.n.n.n)), .inr hS.k0, .inr (hS.k1 (sQ.n.n.n.n)), .inr hS.k0, trivial⟩, ?_⟩
     refine gQ 0 rfl rfl hF hS rfl (ef_bslice0 ty23 ty83) ?_
     clear hF hS; rintro v_1_0 _ _ a w ⟨rfl, rfl⟩ hF hS
     refine ⟨⟨.inr (hS.k1 (sQ.n.n.n.n.n)), .inr hS.k0, .inr (hS.k1 (sQ.n.n.n.n.n)), .inr hS.k0, .inr (hS.k1 (sQ.n.n.n.n.n)), .inr hS.k0, trivial⟩, ?_⟩
     refine gQ 3 rfl rfl hF hS rfl (ef_append ty23 ty83 0 rfl rfl rfl (src_slC ty23 hxn zin0 (by decide)) bQ rfl (by decide)) ?_
     clear hF hS; rintro v_1_3 _ _ a w ⟨rfl, rfl⟩ hF hS
     refine ⟨⟨.inr (hS.k1 (sQ.n.n.n.n.n)), .inr hS.k0, .inr (hS.k1 (sQ.n.n.n.n.n)), .inr hS.k0, iQ, iQ, trivial⟩, ?_⟩
     refine gQ 7 rfl rfl hF hS rfl (ef_append ty22 ty3 1 rfl rfl rfl (src_slV ty22 hxs zin0) bQ rfl (by decide)) ?_
     clear hF hS; rintro v_1_7 _ _ a w ⟨rfl, rfl⟩ hF hS
     refine ⟨⟨.inr (hS.k1 (sQ.n.n.n.n.n)), .inr hS.k0, iQ, iQ, iQ, iQ, trivial⟩, ?_⟩
     refine gQ 11 rfl rfl hF hS rfl (ef_append ty24 ty4 2 rfl rfl rfl (src_slV ty24 hxb zin0) bQ rfl (by decide)) ?_
     clear hF hS; rintro v_1_11 _ _ a w ⟨rfl, rfl⟩ hF hS
     refine ⟨⟨iQ, iQ, iQ, iQ, iQ, iQ, trivial⟩, ?_⟩
     refine goW_take 12 _ rfl kQ rfl hF (hS.keep sQ (zQ.k.k.k)) (q_buildS1 ty26 3 kQ rfl rfl (oc_cons (row_one (hS.own _ (List.mem_of_getElem? (i := 0) rfl)).1) (oc_cons (row_one (hS.own _ (List.mem_of_getElem? (i := 1) rfl)).1) (oc_cons (row_one (hS.own _ (List.mem_of_getElem? (i := 2) rfl)).1) oc_nil))) rfl rfl) ?_
     clear hF; intro a hF
     refine gQ 14 rfl rfl hF hS rfl (ef_storeW ty26 3 rfl rfl rfl rfl bQ (oc_cons (row_one (hS.own _ (List.mem_of_getElem? (i := 0) rfl)).1) (oc_cons (row_one (hS.own _ (List.mem_of_getElem? (i := 1) rfl)).1) (oc_cons (row_one (hS.own _ (List.mem_of_getElem? (i := 2) rfl)).1) oc_nil))) bQ) ?_
     clear hF hS; rintro _ _ _ a w ⟨rfl, rfl, rfl⟩ hF hS
     refine ⟨⟨iQ, iQ, iQ, iQ, iQ, iQ, iQ, trivial⟩, ?_⟩
     exact goW_done kQ (j7_mk v_1_0 v_1_3 v_1_4 v_1_7 v_1_8 v_1_11 b_1_13 (trivial) (hF.sub (L' := [(1, _), (2, _), (6, _), (7, _)]) ⟨rfl, rfl, rfl, rfl, trivial⟩) ((((((hS.perm (.cons _ (.cons _ (.swap _ _ _)))).perm (.cons _ (.swap _ _ _))).perm (.swap _ _ _)).perm (.cons _ (.cons _ (.swap _ _ _)))).perm (.cons _ (.swap _ _ _))).perm (.cons _ (.cons _ (.swap _ _ _)))))
 rintro a w ⟨v_1_0, v_1_3, v_1_4, v_1_7, v_1_8, v_1_11, b_1_13, -, hF, hS⟩
 (try dsimp only at hF); (try dsimp only at hS)
 replace hS := hS.perm (.cons _ (.cons _ (.swap _ _ _)))
 replace hS := hS.perm (.cons _ (.swap _ _ _))
 replace hS := hS.perm (.swap _ _ _)
 replace hS := hS.rowEq (Nat.zero_add _) (List.nil_append _)
 replace hS : St _ [] [_, _, _, _, _, _] _ := hS
 replace hS := hS.perm (.cons _ (.cons _ (.swap _ _ _)))
 replace hS := hS.perm (.cons _ (.swap _ _ _))
 replace hS := hS.perm (.swap _ _ _)
 replace hS := hS.rowEq (Nat.zero_add _) (List.nil_append _)
 replace hS : St _ [] [_, _, _, _, _, _] _ := hS
 replace hS := hS.perm (.cons _ (.cons _ (.swap _ _ _)))
 replace hS := hS.perm (.cons _ (.swap _ _ _))
 replace hS := hS.perm (.swap _ _ _)
 replace hS := hS.rowEq (Nat.zero_add _) (List.nil_append _)
 replace hS : St _ [] [_, _, _, _, _, _] _ := hS
 refine hK2 _ _ ?_
 clear hK2
 refine wp_seq_k ?_; intro K3 hK3
 refine reg hF hS (sq rfl (q_move rfl) <|
   sq rfl (q_fieldAddr ty26 rfl rfl (s' := 0) kQ) <|
   sq rfl (q_ld_blk1 ty22 3 rfl rfl rfl rfl) <|
   sq rfl (q_len_row ty22 1 rfl rfl) <|
   sq rfl (q_max rfl rfl) <|
   sq rfl (q_call fn40 rfl (fun w hS => arnd_ct _ _ (by omega) (by omega) w ) (fun _ _ _ h => h)) <|
   sq rfl (q_assign rfl) <|
   sq_end) ?_
 clear hF hS; intro a w hF hS
 refine hK3 _ _ ?_
 clear hK3
 refine wp_seq_k ?_; intro K4 hK4
 refine wp_seq_k ?_; intro K5 hK5
 refine reg hF hS (sq rfl (q_move rfl) <|
   sq rfl (q_call fn40 rfl (fun w hS => arnd_ct _ _ (by omega) (by omega) w ) (fun _ _ _ h => h)) <|
   sq_end) ?_
 clear hF hS; intro a w hF hS
 refine hK5 _ _ ?_
 clear hK5
 refine wp_block ?_
 refine wp_seq_k ?_; intro K6 hK6
 refine reg hF hS (sq rfl (q_eqi rfl rfl) <|
   sq rfl (q_assign rfl) <|
   sq_end) ?_
 clear hF hS; intro a w hF hS
 refine hK6 _ _ ?_
 clear hK6
 refine wp_ifd hF rfl (fun hc1 => ?_) (fun hc1 => ?_)
 ·refine wp_seq_k ?_; intro K7 hK7
  refine reg hF hS (sq rfl (q_fieldAddr ty26 rfl rfl (s' := 0) kQ) <|
    sq rfl (q_ld_blk1 ty22 3 rfl rfl rfl rfl) <|
    sq rfl (q_len_row ty22 1 rfl rfl) <|
    sq rfl (q_gti rfl rfl) <|
    sq_end) ?_
  clear hF hS; intro a w hF hS
  refine hK7 _ _ ?_
  clear hK7
  refine wp_ifd hF rfl (fun hc2 => ?_) (fun hc2 => ?_)
  ·revert hS; revert hF; apply regJ (J := J1 (α0 := Value) 166 _ _ _ _ _) #[false, false, false, false, false, false, false, false, false, false, false, false] 12 mixed rfl rfl
   ·intro w hF hS
    refine goW_take 0 _ rfl kQ rfl hF (hS.keep sQ zQ) (q_fieldAddr ty26 rfl rfl (s' := 0) kQ) ?_
    clear hF; intro a hF
    refine goW_take 1 _ rfl kQ rfl hF (hS.keep sQ (zQ.k.n.n.n)) (q_ld_blk1 ty22 0 rfl rfl rfl rfl) ?_
    clear hF; intro a hF
    refine goW_take 2 _ rfl kQ rfl hF (hS.keep sQ zQ) (q_move rfl) ?_
    clear hF; intro a hF
    refine goW_take 3 _ rfl kQ rfl hF (hS.keep sQ zQ) (q_move rfl) ?_
    clear hF; intro a hF
    refine goW_take 5 _ rfl kQ rfl hF (hS.keep sQ zQ) (q_move rfl) ?_
    clear hF; intro a hF
    refine goW_take 6 _ rfl kQ rfl hF (hS.keep sQ zQ) (q_quoi' rfl rfl (by omega)) ?_
    clear hF; intro a hF
    refine goW_fork [4, 7] kQ rfl ⟨?_, ?_, trivial⟩
    ·refine stepW_ef _ rfl rfl hF hS rfl (ef_bsliceA ty22 ty3 rfl rfl oQ (by decide) rfl rfl) ?_
     clear hF hS; rintro v_8_4 _ _ a w ⟨rfl, rfl⟩ hF hS
     refine ⟨⟨.inr hS.k0, .inr hS.k0, iQ, .inr hS.k0, .inr (hS.k1 (zQ.k.n.n.n.n)), .inr hS.k0, trivial⟩, ?_⟩
     refine gQ 7 rfl rfl hF hS rfl (ef_qt (q_call fn40 rfl (fun w hS => arnd_ct _ _ (by omega) (by omega) w ) (fun _ _ _ h => h))) ?_
     clear hF hS; rintro _ _ _ a w ⟨rfl, rfl, rfl⟩ hF hS
     refine ⟨⟨iQ, iQ, iQ, .inr hS.k0, .inr (hS.k1 (zQ.k.n.n.n.n)), .inr hS.k0, trivial⟩, ?_⟩
     refine goW_take 8 _ rfl kQ rfl hF (hS.keep sQ (zQ.k)) (q_idx_row ty22 ty3 0 rfl rfl rfl (by omega)) ?_
     clear hF; intro a hF
     refine goW_take 9 _ rfl kQ rfl hF (hS.keep sQ (zQ.k)) (q_ld_rowM (f := vi) (xs := [b, -1, 0, 4611686018427387904, 5]) ty3 0 (0 : Int) rfl rfl (by simp; omega) rfl) ?_
     clear hF; intro a hF
     refine goW_take 10 _ rfl kQ rfl hF (hS.keep sQ (zQ.k.n.n)) (q_idx_row ty22 ty3 0 rfl rfl rfl (by omega)) ?_
     clear hF; intro a hF
     refine gQ 11 rfl rfl hF hS rfl (ef_st_row ty3 2 rfl rfl rfl (by omega) rfl) ?_
     clear hF hS; rintro _ _ _ a w ⟨rfl, rfl, rfl⟩ hF hS
     refine ⟨⟨iQ, iQ, iQ, iQ, iQ, iQ, iQ, iQ, iQ, trivial⟩, ?_⟩
     exact goW_done kQ (j1_mk v_8_4 (trivial) (hF.sub (L' := [(6, _), (7, _)]) ⟨rfl, rfl, trivial⟩) hS)
    ·refine stepW_ef _ rfl rfl hF hS rfl (ef_qt (q_call fn40 rfl (fun w hS => arnd_ct _ _ (by omega) (by omega) w ) (fun _ _ _ h => h))) ?_
     clear hF hS; rintro _ _ _ a w ⟨rfl, rfl, rfl⟩ hF hS
     refine ⟨⟨iQ, iQ, .inr hS.k0, .inr hS.k0, .inr (hS.k1 (zQ.k.n.n.n)), .inr hS.k0, trivial⟩, ?_⟩
     refine gQ 4 rfl rfl hF hS rfl (ef_bsliceA ty22 ty3 rfl rfl oQ (by decide) rfl rfl) ?_
     clear hF hS; rintro v_8_4 _ _ a w ⟨rfl, rfl⟩ hF hS
     refine ⟨⟨iQ, iQ, iQ, .inr hS.k0, .inr (hS.k1 (zQ.k.n.n.n.n)), .inr hS.k0, trivial⟩, ?_⟩
     refine goW_take 8 _ rfl kQ rfl hF (hS.keep sQ (zQ.k)) (q_idx_row ty22 ty3 0 rfl rfl rfl (by omega)) ?_
     clear hF; intro a hF
     refine goW_take 9 _ rfl kQ rfl hF (hS.keep sQ (zQ.k)) (q_ld_rowM (f := vi) (xs := [b, -1, 0, 4611686018427387904, 5]) ty3 0 (0 : Int) rfl rfl (by simp; omega) rfl) ?_
     clear hF; intro a hF
     refine goW_take 10 _ rfl kQ rfl hF (hS.keep sQ (zQ.k.n.n)) (q_idx_row ty22 ty3 0 rfl rfl rfl (by omega)) ?_
     clear hF; intro a hF
     refine gQ 11 rfl rfl hF hS rfl (ef_st_row ty3 2 rfl rfl rfl (by omega) rfl) ?_
     clear hF hS; rintro _ _ _ a w ⟨rfl, rfl, rfl⟩ hF hS
     refine ⟨⟨iQ, iQ, iQ, iQ, iQ, iQ, iQ, iQ, iQ, trivial⟩, ?_⟩
     exact goW_done kQ (j1_mk v_8_4 (trivial) (hF.sub (L' := [(6, _), (7, _)]) ⟨rfl, rfl, trivial⟩) hS)
   rintro a w ⟨v_8_4, -, hF, hS⟩
   (try dsimp only at hF); (try dsimp only at hS)
   refine hK4 _ _ ?_
   clear hK4
   refine wp_seq_k ?_; intro K8 hK8
   refine regl ?_
   refine wpl_sq hF hS (sq rfl (q_ld_blkW ty26 4 rfl rfl bQ rfl) <|
     sq_end) ?_
   clear hF hS; intro a w hF hS
   refine wpl_ef hF hS rfl (ef_storeW ty26 5 rfl rfl rfl rfl bQ (oc_cons (row_one (hS.own _ (List.mem_of_getElem? (i := 3) rfl)).1) (oc_cons (row_one (hS.own _ (List.mem_of_getElem? (i := 2) rfl)).1) (oc_cons (row_one (hS.own _ (List.mem_of_getElem? (i := 1) rfl)).1) oc_nil))) bQ) ?_
   clear hF hS; rintro _ _ _ a w ⟨rfl, rfl, rfl⟩ hF hS
   replace hS : St _ [] [_, _, _, _, _, _, _] _ := hS
   refine wpList_nil ?_
   refine hK8 _ _ ?_
   clear hK8
   refine wp_ret ?_
   replace hS := hS.perm (.cons _ (.cons _ (.swap _ _ _)))
   replace hS := hS.perm (.cons _ (.swap _ _ _))
   replace hS := hS.perm (.swap _ _ _)
   obtain ⟨ns9, zn, hzn, hnl9, hS⟩ : ∃ xs9 z, Sl (encC 2) z _ xs9 ∧ xs9.length ≤ N + 1 ∧ St _ (z :: _) _ _ := odd_names hS (by first | exact on_same hxc (by omega) | exact on_app hxc (by omega) (by omega))
   replace hS : St _ [_] [_, _, _, _, _, _] _ := hS
   replace hS := hS.perm (.cons _ (.swap _ _ _))
   replace hS := hS.perm (.swap _ _ _)
   obtain ⟨xs9, zi, hzi, hil9, hS⟩ : ∃ xs9 z, Sl encI z _ xs9 ∧ xs9.length ≤ N + 1 ∧ St _ (z :: _) _ _ := odd_ints hS (by first | exact oi_same hxr (by omega) | exact oi_set hxr (by omega) (rng5 hb9 _) | exact oi_app hxr (by omega) (rng_getD hxr _) | exact oi_cut hxr (by omega) (by omega) | exact oi_set2 hxr (by omega) (rng_getD hxr _) (rng_getD hxr _))
   replace hS : St _ [_, _] [_, _, _, _, _] _ := hS
   replace hS := hS.perm (.swap _ _ _)
   obtain ⟨bl9, zb, hzb, hbl9, hS⟩ : ∃ bl9 z, Sl encT z _ bl9 ∧ bl9.length ≤ N + 1 ∧ St _ (z :: _) _ _ := odd_bools hS (by first | exact ob_same (by omega) | exact ob_set (by omega) | exact ob_app (by omega) | exact ob_cut (by omega) (by omega))
   replace hS : St _ [_, _, _] [_, _, _, _] _ := hS
   obtain ⟨zu, hzu, hS⟩ := hS.union
   exact fn_ret (rs := [.cell 6 26]) rfl hF hS (vs := [_]) ⟨⟨_, _, _, _, _, _, _, rfl, List.mem_of_getElem? (i := 2) rfl, ty26, .inl ⟨rfl, bQ, rfl⟩⟩, trivial⟩ (zs' := [zu]) (hs' := []) (List.singleton_sublist.2 (by simp)) zQ ⟨_, _, _, ns9, xs9, bl9, zu, rfl, hzn.mono (hzu _ (by simp)), hzi.mono (hzu _ (by simp)), hzb.mono (hzu _ (by simp)), hnl9, hil9, hbl9, (fun h => by cases h), rfl, rfl⟩
  ·refine wp_skip ?_
   refine hK4 _ _ ?_
   clear hK4
   refine wp_seq_k ?_; intro K9 hK9
   refine regl ?_
   refine wpl_sq hF hS (sq rfl (q_ld_blkW ty26 3 rfl rfl bQ rfl) <|
     sq_end) ?_
   clear hF hS; intro a w hF hS
   refine wpl_ef hF hS rfl (ef_storeW ty26 4 rfl rfl rfl rfl bQ (oc_cons (row_one (hS.own _ (List.mem_of_getElem? (i := 2) rfl)).1) (oc_cons (row_one (hS.own _ (List.mem_of_getElem? (i := 1) rfl)).1) (oc_cons (row_one (hS.own _ (List.mem_of_getElem? (i := 0) rfl)).1) oc_nil))) bQ) ?_
   clear hF hS; rintro _ _ _ a w ⟨rfl, rfl, rfl⟩ hF hS
   replace hS : St _ [] [_, _, _, _, _, _] _ := hS
   refine wpList_nil ?_
   refine hK9 _ _ ?_
   clear hK9
   refine wp_ret ?_
   replace hS := hS.perm (.cons _ (.swap _ _ _))
   replace hS := hS.perm (.swap _ _ _)
   obtain ⟨ns9, zn, hzn, hnl9, hS⟩ : ∃ xs9 z, Sl (encC 2) z _ xs9 ∧ xs9.length ≤ N + 1 ∧ St _ (z :: _) _ _ := odd_names hS (by first | exact on_same hxc (by omega) | exact on_app hxc (by omega) (by omega))
   replace hS : St _ [_] [_, _, _, _, _] _ := hS
   replace hS := hS.perm (.swap _ _ _)
   obtain ⟨xs9, zi, hzi, hil9, hS⟩ : ∃ xs9 z, Sl encI z _ xs9 ∧ xs9.length ≤ N + 1 ∧ St _ (z :: _) _ _ := odd_ints hS (by first | exact oi_same hxr (by omega) | exact oi_set hxr (by omega) (rng5 hb9 _) | exact oi_app hxr (by omega) (rng_getD hxr _) | exact oi_cut hxr (by omega) (by omega) | exact oi_set2 hxr (by omega) (rng_getD hxr _) (rng_getD hxr _))
   replace hS : St _ [_, _] [_, _, _, _] _ := hS
   obtain ⟨bl9, zb, hzb, hbl9, hS⟩ : ∃ bl9 z, Sl encT z _ bl9 ∧ bl9.length ≤ N + 1 ∧ St _ (z :: _) _ _ := odd_bools hS (by first | exact ob_same (by omega) | exact ob_set (by omega) | exact ob_app (by omega) | exact ob_cut (by omega) (by omega))
   replace hS : St _ [_, _, _] [_, _, _] _ := hS
   obtain ⟨zu, hzu, hS⟩ := hS.union
   exact fn_ret (rs := [.cell 6 26]) rfl hF hS (vs := [_]) ⟨⟨_, _, _, _, _, _, _, rfl, List.mem_of_getElem? (i := 1) rfl, ty26, .inl ⟨rfl, bQ, rfl⟩⟩, trivial⟩ (zs' := [zu]) (hs' := []) (List.singleton_sublist.2 (by simp)) zQ ⟨_, _, _, ns9, xs9, bl9, zu, rfl, hzn.mono (hzu _ (by simp)), hzi.mono (hzu _ (by simp)), hzb.mono (hzu _ (by simp)), hnl9, hil9, hbl9, (fun h => by cases h), rfl, rfl⟩
 ·refine wp_seq_k ?_; intro K10 hK10
  refine reg hF hS (sq rfl (q_eqi rfl rfl) <|
    sq rfl (q_assign rfl) <|
    sq_end) ?_
  clear hF hS; intro a w hF hS
  refine hK10 _ _ ?_
  clear hK10
  refine wp_ifd hF rfl (fun hc3 => ?_) (fun hc3 => ?_)
  ·refine wp_seq_k ?_; intro K11 hK11
   refine reg hF hS (sq rfl (q_fieldAddr ty26 rfl rfl (s' := 0) kQ) <|
     sq rfl (q_ld_blk1 ty22 3 rfl rfl rfl rfl) <|
     sq rfl (q_len_row ty22 1 rfl rfl) <|
     sq rfl (q_gti rfl rfl) <|
     sq_end) ?_
   clear hF hS; intro a w hF hS
   refine hK11 _ _ ?_
   clear hK11
   refine wp_ifd hF rfl (fun hc4 => ?_) (fun hc4 => ?_)
   ·refine wp_seq_k ?_; intro K12 hK12
    revert hS; revert hF; apply regJ (J := J2 (α0 := Value) (α1 := Value) 166 _ _ _ _ _) #[false, false, false, false, false, false, false, false, false, false, false] 11 mixed rfl rfl
    ·intro w hF hS
     refine goW_take 0 _ rfl kQ rfl hF (hS.keep sQ zQ) (q_fieldAddr ty26 rfl rfl (s' := 0) kQ) ?_
     clear hF; intro a hF
     refine goW_take 1 _ rfl kQ rfl hF (hS.keep sQ (zQ.k.n.n.n)) (q_ld_blk1 ty22 0 rfl rfl rfl rfl) ?_
     clear hF; intro a hF
     refine goW_take 2 _ rfl kQ rfl hF (hS.keep sQ zQ) (q_fieldAddr ty26 rfl rfl (s' := 0) kQ) ?_
     clear hF; intro a hF
     refine goW_take 3 _ rfl kQ rfl hF (hS.keep sQ (zQ.k.n.n.n)) (q_ld_blk1 ty22 0 rfl rfl rfl rfl) ?_
     clear hF; intro a hF
     refine goW_take 4 _ rfl kQ rfl hF (hS.keep sQ zQ) (q_move rfl) ?_
     clear hF; intro a hF
     refine goW_take 5 _ rfl kQ rfl hF (hS.keep sQ (zQ.k.n)) (q_idx_row ty22 ty3 0 rfl rfl rfl (by omega)) ?_
     clear hF; intro a hF
     refine goW_take 6 _ rfl kQ rfl hF (hS.keep sQ (zQ.k.n)) (q_ld_rowM ty3 0 (0 : Int) rfl rfl bQ rfl) ?_
     clear hF; intro a hF
     refine gQ 7 rfl rfl hF hS rfl (ef_bsliceA ty22 ty3 rfl rfl oQ (by decide) rfl rfl) ?_
     clear hF hS; rintro v_11_7 _ _ a w ⟨rfl, rfl⟩ hF hS
     refine ⟨⟨iQ, iQ, .inr hS.k0, .inr (hS.k1 (zQ.k.n.n.n.n)), .inr hS.k0, .inr (hS.k1 (zQ.k.n.n.n.n)), .inr hS.k0, trivial⟩, ?_⟩
     refine gQ 8 rfl rfl hF hS rfl (ef_append ty22 ty3 2 rfl rfl rfl (src_row ty22 (k := 0) rfl oQ) bQ rfl (by decide)) ?_
     clear hF hS; rintro v_11_8 _ _ a w ⟨rfl, rfl⟩ hF hS
     refine ⟨⟨iQ, iQ, .inr hS.k0, .inr (hS.k1 (zQ.k.n.n.n.n)), .inr hS.k0, iQ, iQ, trivial⟩, ?_⟩
     refine goW_take 9 _ rfl kQ rfl hF (hS.keep sQ zQ) (q_fieldAddr ty26 rfl rfl (s' := 0) kQ) ?_
     clear hF; intro a hF
     refine gQ 10 rfl rfl hF hS rfl (ef_store1 ty22 4 rfl rfl rfl (row_one (hS.own _ (List.mem_of_getElem? (i := 2) rfl)).1) (by simp)) ?_
     clear hF hS; rintro _ _ _ a w ⟨rfl, rfl, rfl⟩ hF hS
     replace hS : St _ [] [_, _, _, _, .blk _ _ ([_, _, _].set 1 _), _, _] _ := hS
     simp only [List.set_cons_zero, List.set_cons_succ] at hS
     replace hS : St _ [] [_, _, _, _, _, _, _] _ := hS
     refine ⟨⟨iQ, iQ, iQ, iQ, iQ, iQ, iQ, iQ, trivial⟩, ?_⟩
     exact goW_done kQ (j2_mk v_11_7 v_11_8 (trivial) (hF.sub (L' := [(2, _), (6, _), (7, _)]) ⟨rfl, rfl, rfl, trivial⟩) hS)
    rintro a w ⟨v_11_7, v_11_8, -, hF, hS⟩
    (try dsimp only at hF); (try dsimp only at hS)
    refine hK12 _ _ ?_
    clear hK12
    refine regl ?_
    refine wpl_sq hF hS (sq rfl (q_fieldAddr ty26 rfl rfl (s' := 0) kQ) <|
      sq rfl (q_ld_blk1 ty24 4 rfl rfl rfl rfl) <|
      sq rfl (q_move rfl) <|
      sq rfl (q_remi' rfl rfl (by decide)) <|
      sq rfl (q_eqi rfl rfl) <|
      sq_end) ?_
    clear hF hS; intro a w hF hS
    refine wpl_ef hF hS rfl (ef_bsliceA ty24 ty4 rfl rfl oQ (by decide) rfl rfl) ?_
    clear hF hS; rintro v3 _ _ a w ⟨rfl, rfl⟩ hF hS
    replace hS : St _ [] [_, _, _, _, _, _, _, _] _ := hS
    refine wpl_ef hF hS rfl (ef_append ty24 ty4 2 rfl rfl rfl (src_row ty24 (k := 0) rfl oQ) bQ rfl (by decide)) ?_
    clear hF hS; rintro v5 _ _ a w ⟨rfl, rfl⟩ hF hS
    replace hS : St _ [] [_, _, _, _, _, _, _, _] _ := hS
    refine wpl_sq hF hS (sq rfl (q_fieldAddr ty26 rfl rfl (s' := 0) kQ) <|
      sq_end) ?_
    clear hF hS; intro a w hF hS
    refine wpl_ef hF hS rfl (ef_store1 ty24 5 rfl rfl rfl (row_one (hS.own _ (List.mem_of_getElem? (i := 2) rfl)).1) (by simp)) ?_
    clear hF hS; rintro _ _ _ a w ⟨rfl, rfl, rfl⟩ hF hS
    replace hS : St _ [] [_, _, _, _, _, .blk _ _ ([_, _, _].set 2 _), _, _] _ := hS
    simp only [List.set_cons_zero, List.set_cons_succ] at hS
    replace hS : St _ [] [_, _, _, _, _, _, _, _] _ := hS
    refine wpList_nil ?_
    refine hK4 _ _ ?_
    clear hK4
    refine wp_seq_k ?_; intro K13 hK13
    refine regl ?_
    refine wpl_sq hF hS (sq rfl (q_ld_blkW ty26 5 rfl rfl bQ rfl) <|
      sq_end) ?_
    clear hF hS; intro a w hF hS
    refine wpl_ef hF hS rfl (ef_storeW ty26 6 rfl rfl rfl rfl bQ (oc_cons (row_one (hS.own _ (List.mem_of_getElem? (i := 4) rfl)).1) (oc_cons (row_one (hS.own _ (List.mem_of_getElem? (i := 3) rfl)).1) (oc_cons (row_one (hS.own _ (List.mem_of_getElem? (i := 2) rfl)).1) oc_nil))) bQ) ?_
    clear hF hS; rintro _ _ _ a w ⟨rfl, rfl, rfl⟩ hF hS
    replace hS : St _ [] [_, _, _, _, _, _, _, _] _ := hS
    refine wpList_nil ?_
    refine hK13 _ _ ?_
    clear hK13
    refine wp_ret ?_
    replace hS := hS.perm (.cons _ (.cons _ (.cons _ (.swap _ _ _))))
    replace hS := hS.perm (.cons _ (.cons _ (.swap _ _ _)))
    replace hS := hS.perm (.cons _ (.swap _ _ _))
    replace hS := hS.perm (.swap _ _ _)
    obtain ⟨ns9, zn, hzn, hnl9, hS⟩ : ∃ xs9 z, Sl (encC 2) z _ xs9 ∧ xs9.length ≤ N + 1 ∧ St _ (z :: _) _ _ := odd_names hS (by first | exact on_same hxc (by omega) | exact on_app hxc (by omega) (by omega))
    replace hS : St _ [_] [_, _, _, _, _, _, _] _ := hS
    replace hS := hS.perm (.cons _ (.cons _ (.swap _ _ _)))
    replace hS := hS.perm (.cons _ (.swap _ _ _))
    replace hS := hS.perm (.swap _ _ _)
    obtain ⟨xs9, zi, hzi, hil9, hS⟩ : ∃ xs9 z, Sl encI z _ xs9 ∧ xs9.length ≤ N + 1 ∧ St _ (z :: _) _ _ := odd_ints hS (by first | exact oi_same hxr (by omega) | exact oi_set hxr (by omega) (rng5 hb9 _) | exact oi_app hxr (by omega) (rng_getD hxr _) | exact oi_cut hxr (by omega) (by omega) | exact oi_set2 hxr (by omega) (rng_getD hxr _) (rng_getD hxr _))
    replace hS : St _ [_, _] [_, _, _, _, _, _] _ := hS
    replace hS := hS.perm (.cons _ (.swap _ _ _))
    replace hS := hS.perm (.swap _ _ _)
    obtain ⟨bl9, zb, hzb, hbl9, hS⟩ : ∃ bl9 z, Sl encT z _ bl9 ∧ bl9.length ≤ N + 1 ∧ St _ (z :: _) _ _ := odd_bools hS (by first | exact ob_same (by omega) | exact ob_set (by omega) | exact ob_app (by omega) | exact ob_cut (by omega) (by omega))
    replace hS : St _ [_, _, _] [_, _, _, _, _] _ := hS
    obtain ⟨zu, hzu, hS⟩ := hS.union
    exact fn_ret (rs := [.cell 6 26]) rfl hF hS (vs := [_]) ⟨⟨_, _, _, _, _, _, _, rfl, List.mem_of_getElem? (i := 3) rfl, ty26, .inl ⟨rfl, bQ, rfl⟩⟩, trivial⟩ (zs' := [zu]) (hs' := []) (List.singleton_sublist.2 (by simp)) zQ ⟨_, _, _, ns9, xs9, bl9, zu, rfl, hzn.mono (hzu _ (by simp)), hzi.mono (hzu _ (by simp)), hzb.mono (hzu _ (by simp)), hnl9, hil9, hbl9, (fun h => by cases h), rfl, rfl⟩
   ·refine wp_skip ?_
    refine hK4 _ _ ?_
    clear hK4
    refine wp_seq_k ?_; intro K14 hK14
    refine regl ?_
    refine wpl_sq hF hS (sq rfl (q_ld_blkW ty26 3 rfl rfl bQ rfl) <|
      sq_end) ?_
    clear hF hS; intro a w hF hS
    refine wpl_ef hF hS rfl (ef_storeW ty26 4 rfl rfl rfl rfl bQ (oc_cons (row_one (hS.own _ (List.mem_of_getElem? (i := 2) rfl)).1) (oc_cons (row_one (hS.own _ (List.mem_of_getElem? (i := 1) rfl)).1) (oc_cons (row_one (hS.own _ (List.mem_of_getElem? (i := 0) rfl)).1) oc_nil))) bQ) ?_
    clear hF hS; rintro _ _ _ a w ⟨rfl, rfl, rfl⟩ hF hS
    replace hS : St _ [] [_, _, _, _, _, _] _ := hS
    refine wpList_nil ?_
    refine hK14 _ _ ?_
    clear hK14
    refine wp_ret ?_
    replace hS := hS.perm (.cons _ (.swap _ _ _))
    replace hS := hS.perm (.swap _ _ _)
    obtain ⟨ns9, zn, hzn, hnl9, hS⟩ : ∃ xs9 z, Sl (encC 2) z _ xs9 ∧ xs9.length ≤ N + 1 ∧ St _ (z :: _) _ _ := odd_names hS (by first | exact on_same hxc (by omega) | exact on_app hxc (by omega) (by omega))
    replace hS : St _ [_] [_, _, _, _, _] _ := hS
    replace hS := hS.perm (.swap _ _ _)
    obtain ⟨xs9, zi, hzi, hil9, hS⟩ : ∃ xs9 z, Sl encI z _ xs9 ∧ xs9.length ≤ N + 1 ∧ St _ (z :: _) _ _ := odd_ints hS (by first | exact oi_same hxr (by omega) | exact oi_set hxr (by omega) (rng5 hb9 _) | exact oi_app hxr (by omega) (rng_getD hxr _) | exact oi_cut hxr (by omega) (by omega) | exact oi_set2 hxr (by omega) (rng_getD hxr _) (rng_getD hxr _))
    replace hS : St _ [_, _] [_, _, _, _] _ := hS
    obtain ⟨bl9, zb, hzb, hbl9, hS⟩ : ∃ bl9 z, Sl encT z _ bl9 ∧ bl9.length ≤ N + 1 ∧ St _ (z :: _) _ _ := odd_bools hS (by first | exact ob_same (by omega) | exact ob_set (by omega) | exact ob_app (by omega) | exact ob_cut (by omega) (by omega))
    replace hS : St _ [_, _, _] [_, _, _] _ := hS
    obtain ⟨zu, hzu, hS⟩ := hS.union
    exact fn_ret (rs := [.cell 6 26]) rfl hF hS (vs := [_]) ⟨⟨_, _, _, _, _, _, _, rfl, List.mem_of_getElem? (i := 1) rfl, ty26, .inl ⟨rfl, bQ, rfl⟩⟩, trivial⟩ (zs' := [zu]) (hs' := []) (List.singleton_sublist.2 (by simp)) zQ ⟨_, _, _, ns9, xs9, bl9, zu, rfl, hzn.mono (hzu _ (by simp)), hzi.mono (hzu _ (by simp)), hzb.mono (hzu _ (by simp)), hnl9, hil9, hbl9, (fun h => by cases h), rfl, rfl⟩
  ·refine wp_seq_k ?_; intro K15 hK15
   refine reg hF hS (sq rfl (q_eqi rfl rfl) <|
     sq rfl (q_assign rfl) <|
     sq_end) ?_
   clear hF hS; intro a w hF hS
   refine hK15 _ _ ?_
   clear hK15
   refine wp_ifd hF rfl (fun hc5 => ?_) (fun hc5 => ?_)
   ·refine wp_seq_k ?_; intro K16 hK16
    refine regl ?_
    refine wpl_sq hF hS (sq rfl (q_fieldAddr ty26 rfl rfl (s' := 0) kQ) <|
      sq rfl (q_ld_blk1 ty22 3 rfl rfl rfl rfl) <|
      sq rfl (q_len_row ty22 1 rfl rfl) <|
      sq rfl (q_gti rfl rfl) <|
      sq rfl (q_move rfl) <|
      sq_end) ?_
    clear hF hS; intro a w hF hS
    refine wpl_and 4 97 5 hF hS rfl rfl rfl rfl rfl (fun hg => have hg := (by first | exact of_decide_eq_true hg | exact hg); sq_go 97 rfl rfl rfl (q_move rfl) <|
      sq_go 97 rfl rfl rfl (q_fieldAddr ty26 rfl rfl (s' := 0) kQ) <|
      sq_go 97 rfl rfl rfl (q_ld_blk1 ty24 3 rfl rfl rfl rfl) <|
      sq_go 97 rfl rfl rfl (q_len_row ty24 0 rfl rfl) <|
      sq_go 97 rfl rfl rfl (q_lti rfl rfl) <|
      sq_end) rfl rfl ?_
    clear hF hS; intro a w hF hS
    refine wpList_nil ?_
    refine hK16 _ _ ?_
    clear hK16
    refine wp_if hF rfl (fun hc6 => ?_) (fun hc6 => ?_)
    ·(try simp only [Bool.or_eq_true, Bool.and_eq_true, Bool.or_eq_false_iff, Bool.and_eq_false_iff, decide_eq_true_eq, decide_eq_false_iff_not, Bool.not_eq_true', Bool.not_eq_false'] at hc6)
     refine wp_seq_k ?_; intro K17 hK17
     refine regt 9 mixed kQ hF hS (sq rfl (q_fieldAddr ty26 rfl rfl (s' := 0) kQ) <|
       sq rfl (q_ld_blk1 ty22 3 rfl rfl rfl rfl) <|
       sq rfl (q_move rfl) <|
       sq rfl (q_slrow_hi ty22 ty3 1 rfl rfl rfl (by omega)) <|
       sq rfl (q_fieldAddr ty26 rfl rfl (s' := 0) kQ) <|
       sq rfl (q_ld_blk1 ty22 3 rfl rfl rfl rfl) <|
       sq rfl (q_move rfl) <|
       sq rfl (q_addi rfl rfl (by omega)) <|
       sq rfl (q_slrow_lo ty22 ty3 1 rfl rfl rfl (by omega)) <|
       sq_end) ?_
     clear hF hS; intro a w hF hS
     refine wpl_ef hF hS rfl (ef_append_cut ty22 ty3 1 rfl rfl (by omega) rfl (by omega) (by omega) oQ rfl) ?_
     clear hF hS; rintro v6 _ _ a w ⟨rfl, rfl⟩ hF hS
     replace hS : St _ [] [_, _, _, _, _, _] _ := hS
     refine wpl_sq hF hS (sq rfl (q_fieldAddr ty26 rfl rfl (s' := 0) kQ) <|
       sq_end) ?_
     clear hF hS; intro a w hF hS
     refine wpl_ef hF hS rfl (ef_store1 ty22 3 rfl rfl rfl (row_one (hS.own _ (List.mem_of_getElem? (i := 1) rfl)).1) (by simp)) ?_
     clear hF hS; rintro _ _ _ a w ⟨rfl, rfl, rfl⟩ hF hS
     replace hS : St _ [] [_, _, _, .blk _ _ ([_, _, _].set 1 _), _, _] _ := hS
     simp only [List.set_cons_zero, List.set_cons_succ] at hS
     replace hS : St _ [] [_, _, _, _, _, _] _ := hS
     refine wpList_nil ?_
     refine hK17 _ _ ?_
     clear hK17
     refine regt 9 mixed kQ hF hS (sq rfl (q_fieldAddr ty26 rfl rfl (s' := 0) kQ) <|
       sq rfl (q_ld_blk1 ty24 3 rfl rfl rfl rfl) <|
       sq rfl (q_move rfl) <|
       sq rfl (q_slrow_hi ty24 ty4 0 rfl rfl rfl (by omega)) <|
       sq rfl (q_fieldAddr ty26 rfl rfl (s' := 0) kQ) <|
       sq rfl (q_ld_blk1 ty24 3 rfl rfl rfl rfl) <|
       sq rfl (q_move rfl) <|
       sq rfl (q_addi rfl rfl (by omega)) <|
       sq rfl (q_slrow_lo ty24 ty4 0 rfl rfl rfl (by omega)) <|
       sq_end) ?_
     clear hF hS; intro a w hF hS
     refine wpl_ef hF hS rfl (ef_append_cut ty24 ty4 0 rfl rfl (by omega) rfl (by omega) (by omega) oQ rfl) ?_
     clear hF hS; rintro v7 _ _ a w ⟨rfl, rfl⟩ hF hS
     replace hS : St _ [] [_, _, _, _, _, _] _ := hS
     refine wpl_sq hF hS (sq rfl (q_fieldAddr ty26 rfl rfl (s' := 0) kQ) <|
       sq_end) ?_
     clear hF hS; intro a w hF hS
     refine wpl_ef hF hS rfl (ef_store1 ty24 3 rfl rfl rfl (row_one (hS.own _ (List.mem_of_getElem? (i := 0) rfl)).1) (by simp)) ?_
     clear hF hS; rintro _ _ _ a w ⟨rfl, rfl, rfl⟩ hF hS
     replace hS : St _ [] [_, _, _, .blk _ _ ([_, _, _].set 2 _), _, _] _ := hS
     simp only [List.set_cons_zero, List.set_cons_succ] at hS
     replace hS : St _ [] [_, _, _, _, _, _] _ := hS
     refine wpList_nil ?_
     refine hK4 _ _ ?_
     clear hK4
     refine wp_seq_k ?_; intro K18 hK18
     refine regl ?_
     refine wpl_sq hF hS (sq rfl (q_ld_blkW ty26 3 rfl rfl bQ rfl) <|
       sq_end) ?_
     clear hF hS; intro a w hF hS
     refine wpl_ef hF hS rfl (ef_storeW ty26 4 rfl rfl rfl rfl bQ (oc_cons (row_one (hS.own _ (List.mem_of_getElem? (i := 2) rfl)).1) (oc_cons (row_one (hS.own _ (List.mem_of_getElem? (i := 1) rfl)).1) (oc_cons (row_one (hS.own _ (List.mem_of_getElem? (i := 0) rfl)).1) oc_nil))) bQ) ?_
     clear hF hS; rintro _ _ _ a w ⟨rfl, rfl, rfl⟩ hF hS
     replace hS : St _ [] [_, _, _, _, _, _] _ := hS
     refine wpList_nil ?_
     refine hK18 _ _ ?_
     clear hK18
     refine wp_ret ?_
     replace hS := hS.perm (.cons _ (.swap _ _ _))
     replace hS := hS.perm (.swap _ _ _)
     obtain ⟨ns9, zn, hzn, hnl9, hS⟩ : ∃ xs9 z, Sl (encC 2) z _ xs9 ∧ xs9.length ≤ N + 1 ∧ St _ (z :: _) _ _ := odd_names hS (by first | exact on_same hxc (by omega) | exact on_app hxc (by omega) (by omega))
     replace hS : St _ [_] [_, _, _, _, _] _ := hS
     replace hS := hS.perm (.swap _ _ _)
     obtain ⟨xs9, zi, hzi, hil9, hS⟩ : ∃ xs9 z, Sl encI z _ xs9 ∧ xs9.length ≤ N + 1 ∧ St _ (z :: _) _ _ := odd_ints hS (by first | exact oi_same hxr (by omega) | exact oi_set hxr (by omega) (rng5 hb9 _) | exact oi_app hxr (by omega) (rng_getD hxr _) | exact oi_cut hxr (by omega) (by omega) | exact oi_set2 hxr (by omega) (rng_getD hxr _) (rng_getD hxr _))
     replace hS : St _ [_, _] [_, _, _, _] _ := hS
     obtain ⟨bl9, zb, hzb, hbl9, hS⟩ : ∃ bl9 z, Sl encT z _ bl9 ∧ bl9.length ≤ N + 1 ∧ St _ (z :: _) _ _ := odd_bools hS (by first | exact ob_same (by omega) | exact ob_set (by omega) | exact ob_app (by omega) | exact ob_cut (by omega) (by omega))
     replace hS : St _ [_, _, _] [_, _, _] _ := hS
     obtain ⟨zu, hzu, hS⟩ := hS.union
     exact fn_ret (rs := [.cell 6 26]) rfl hF hS (vs := [_]) ⟨⟨_, _, _, _, _, _, _, rfl, List.mem_of_getElem? (i := 1) rfl, ty26, .inl ⟨rfl, bQ, rfl⟩⟩, trivial⟩ (zs' := [zu]) (hs' := []) (List.singleton_sublist.2 (by simp)) zQ ⟨_, _, _, ns9, xs9, bl9, zu, rfl, hzn.mono (hzu _ (by simp)), hzi.mono (hzu _ (by simp)), hzb.mono (hzu _ (by simp)), hnl9, hil9, hbl9, (fun h => by cases h), rfl, rfl⟩
    ·(try simp only [Bool.or_eq_true, Bool.and_eq_true, Bool.or_eq_false_iff, Bool.and_eq_false_iff, decide_eq_true_eq, decide_eq_false_iff_not, Bool.not_eq_true', Bool.not_eq_false'] at hc6)
     refine wp_skip ?_
     refine hK4 _ _ ?_
     clear hK4
     refine wp_seq_k ?_; intro K19 hK19
     refine regl ?_
     refine wpl_sq hF hS (sq rfl (q_ld_blkW ty26 3 rfl rfl bQ rfl) <|
       sq_end) ?_
     clear hF hS; intro a w hF hS
     refine wpl_ef hF hS rfl (ef_storeW ty26 4 rfl rfl rfl rfl bQ (oc_cons (row_one (hS.own _ (List.mem_of_getElem? (i := 2) rfl)).1) (oc_cons (row_one (hS.own _ (List.mem_of_getElem? (i := 1) rfl)).1) (oc_cons (row_one (hS.own _ (List.mem_of_getElem? (i := 0) rfl)).1) oc_nil))) bQ) ?_
     clear hF hS; rintro _ _ _ a w ⟨rfl, rfl, rfl⟩ hF hS
     replace hS : St _ [] [_, _, _, _, _, _] _ := hS
     refine wpList_nil ?_
     refine hK19 _ _ ?_
     clear hK19
     refine wp_ret ?_
     replace hS := hS.perm (.cons _ (.swap _ _ _))
     replace hS := hS.perm (.swap _ _ _)
     obtain ⟨ns9, zn, hzn, hnl9, hS⟩ : ∃ xs9 z, Sl (encC 2) z _ xs9 ∧ xs9.length ≤ N + 1 ∧ St _ (z :: _) _ _ := odd_names hS (by first | exact on_same hxc (by omega) | exact on_app hxc (by omega) (by omega))
     replace hS : St _ [_] [_, _, _, _, _] _ := hS
     replace hS := hS.perm (.swap _ _ _)
     obtain ⟨xs9, zi, hzi, hil9, hS⟩ : ∃ xs9 z, Sl encI z _ xs9 ∧ xs9.length ≤ N + 1 ∧ St _ (z :: _) _ _ := odd_ints hS (by first | exact oi_same hxr (by omega) | exact oi_set hxr (by omega) (rng5 hb9 _) | exact oi_app hxr (by omega) (rng_getD hxr _) | exact oi_cut hxr (by omega) (by omega) | exact oi_set2 hxr (by omega) (rng_getD hxr _) (rng_getD hxr _))
     replace hS : St _ [_, _] [_, _, _, _] _ := hS
     obtain ⟨bl9, zb, hzb, hbl9, hS⟩ : ∃ bl9 z, Sl encT z _ bl9 ∧ bl9.length ≤ N + 1 ∧ St _ (z :: _) _ _ := odd_bools hS (by first | exact ob_same (by omega) | exact ob_set (by omega) | exact ob_app (by omega) | exact ob_cut (by omega) (by omega))
     replace hS : St _ [_, _, _] [_, _, _] _ := hS
     obtain ⟨zu, hzu, hS⟩ := hS.union
     exact fn_ret (rs := [.cell 6 26]) rfl hF hS (vs := [_]) ⟨⟨_, _, _, _, _, _, _, rfl, List.mem_of_getElem? (i := 1) rfl, ty26, .inl ⟨rfl, bQ, rfl⟩⟩, trivial⟩ (zs' := [zu]) (hs' := []) (List.singleton_sublist.2 (by simp)) zQ ⟨_, _, _, ns9, xs9, bl9, zu, rfl, hzn.mono (hzu _ (by simp)), hzi.mono (hzu _ (by simp)), hzb.mono (hzu _ (by simp)), hnl9, hil9, hbl9, (fun h => by cases h), rfl, rfl⟩
   ·refine wp_seq_k ?_; intro K20 hK20
    refine reg hF hS (sq rfl (q_eqi rfl rfl) <|
      sq rfl (q_assign rfl) <|
      sq_end) ?_
    clear hF hS; intro a w hF hS
    refine hK20 _ _ ?_
    clear hK20
    refine wp_ifd hF rfl (fun hc7 => ?_) (fun hc7 => ?_)
    ·refine wp_seq_k ?_; intro K21 hK21
     refine reg hF hS (sq rfl (q_move rfl) <|
       sq rfl (q_fieldAddr ty26 rfl rfl (s' := 0) kQ) <|
       sq rfl (q_ld_blk1 ty24 3 rfl rfl rfl rfl) <|
       sq rfl (q_len_row ty24 0 rfl rfl) <|
       sq rfl (q_lti rfl rfl) <|
       sq_end) ?_
     clear hF hS; intro a w hF hS
     refine hK21 _ _ ?_
     clear hK21
     refine wp_ifd hF rfl (fun hc8 => ?_) (fun hc8 => ?_)
     ·refine regt 10 mixed kQ hF hS (sq rfl (q_fieldAddr ty26 rfl rfl (s' := 0) kQ) <|
        sq rfl (q_ld_blk1 ty24 3 rfl rfl rfl rfl) <|
        sq rfl (q_move rfl) <|
        sq rfl (q_fieldAddr ty26 rfl rfl (s' := 0) kQ) <|
        sq rfl (q_ld_blk1 ty24 3 rfl rfl rfl rfl) <|
        sq rfl (q_move rfl) <|
        sq rfl (q_idx_row ty24 ty4 0 rfl rfl rfl (by omega)) <|
        sq rfl (q_ld_rowM ty4 0 default rfl rfl bQ rfl) <|
        sq rfl (q_not rfl) <|
        sq rfl (q_idx_row ty24 ty4 0 rfl rfl rfl (by omega)) <|
        sq_end) ?_
      clear hF hS; intro a w hF hS
      refine wpl_ef hF hS rfl (ef_st_row ty4 0 rfl rfl rfl (by omega) rfl) ?_
      clear hF hS; rintro _ _ _ a w ⟨rfl, rfl, rfl⟩ hF hS
      replace hS : St _ [] [_, _, _, _, _, _] _ := hS
      refine wpList_nil ?_
      refine hK4 _ _ ?_
      clear hK4
      refine wp_seq_k ?_; intro K22 hK22
      refine regl ?_
      refine wpl_sq hF hS (sq rfl (q_ld_blkW ty26 3 rfl rfl bQ rfl) <|
        sq_end) ?_
      clear hF hS; intro a w hF hS
      refine wpl_ef hF hS rfl (ef_storeW ty26 4 rfl rfl rfl rfl bQ (oc_cons (row_one (hS.own _ (List.mem_of_getElem? (i := 2) rfl)).1) (oc_cons (row_one (hS.own _ (List.mem_of_getElem? (i := 1) rfl)).1) (oc_cons (row_one (hS.own _ (List.mem_of_getElem? (i := 0) rfl)).1) oc_nil))) bQ) ?_
      clear hF hS; rintro _ _ _ a w ⟨rfl, rfl, rfl⟩ hF hS
      replace hS : St _ [] [_, _, _, _, _, _] _ := hS
      refine wpList_nil ?_
      refine hK22 _ _ ?_
      clear hK22
      refine wp_ret ?_
      replace hS := hS.perm (.cons _ (.swap _ _ _))
      replace hS := hS.perm (.swap _ _ _)
      obtain ⟨ns9, zn, hzn, hnl9, hS⟩ : ∃ xs9 z, Sl (encC 2) z _ xs9 ∧ xs9.length ≤ N + 1 ∧ St _ (z :: _) _ _ := odd_names hS (by first | exact on_same hxc (by omega) | exact on_app hxc (by omega) (by omega))
      replace hS : St _ [_] [_, _, _, _, _] _ := hS
      replace hS := hS.perm (.swap _ _ _)
      obtain ⟨xs9, zi, hzi, hil9, hS⟩ : ∃ xs9 z, Sl encI z _ xs9 ∧ xs9.length ≤ N + 1 ∧ St _ (z :: _) _ _ := odd_ints hS (by first | exact oi_same hxr (by omega) | exact oi_set hxr (by omega) (rng5 hb9 _) | exact oi_app hxr (by omega) (rng_getD hxr _) | exact oi_cut hxr (by omega) (by omega) | exact oi_set2 hxr (by omega) (rng_getD hxr _) (rng_getD hxr _))
      replace hS : St _ [_, _] [_, _, _, _] _ := hS
      obtain ⟨bl9, zb, hzb, hbl9, hS⟩ : ∃ bl9 z, Sl encT z _ bl9 ∧ bl9.length ≤ N + 1 ∧ St _ (z :: _) _ _ := odd_bools hS (by first | exact ob_same (by omega) | exact ob_set (by omega) | exact ob_app (by omega) | exact ob_cut (by omega) (by omega))
      replace hS : St _ [_, _, _] [_, _, _] _ := hS
      obtain ⟨zu, hzu, hS⟩ := hS.union
      exact fn_ret (rs := [.cell 6 26]) rfl hF hS (vs := [_]) ⟨⟨_, _, _, _, _, _, _, rfl, List.mem_of_getElem? (i := 1) rfl, ty26, .inl ⟨rfl, bQ, rfl⟩⟩, trivial⟩ (zs' := [zu]) (hs' := []) (List.singleton_sublist.2 (by simp)) zQ ⟨_, _, _, ns9, xs9, bl9, zu, rfl, hzn.mono (hzu _ (by simp)), hzi.mono (hzu _ (by simp)), hzb.mono (hzu _ (by simp)), hnl9, hil9, hbl9, (fun h => by cases h), rfl, rfl⟩
     ·refine wp_skip ?_
      refine hK4 _ _ ?_
      clear hK4
      refine wp_seq_k ?_; intro K23 hK23
      refine regl ?_
      refine wpl_sq hF hS (sq rfl (q_ld_blkW ty26 3 rfl rfl bQ rfl) <|
        sq_end) ?_
      clear hF hS; intro a w hF hS
      refine wpl_ef hF hS rfl (ef_storeW ty26 4 rfl rfl rfl rfl bQ (oc_cons (row_one (hS.own _ (List.mem_of_getElem? (i := 2) rfl)).1) (oc_cons (row_one (hS.own _ (List.mem_of_getElem? (i := 1) rfl)).1) (oc_cons (row_one (hS.own _ (List.mem_of_getElem? (i := 0) rfl)).1) oc_nil))) bQ) ?_
      clear hF hS; rintro _ _ _ a w ⟨rfl, rfl, rfl⟩ hF hS
      replace hS : St _ [] [_, _, _, _, _, _] _ := hS
      refine wpList_nil ?_
      refine hK23 _ _ ?_
      clear hK23
      refine wp_ret ?_
      replace hS := hS.perm (.cons _ (.swap _ _ _))
      replace hS := hS.perm (.swap _ _ _)
      obtain ⟨ns9, zn, hzn, hnl9, hS⟩ : ∃ xs9 z, Sl (encC 2) z _ xs9 ∧ xs9.length ≤ N + 1 ∧ St _ (z :: _) _ _ := odd_names hS (by first | exact on_same hxc (by omega) | exact on_app hxc (by omega) (by omega))
      replace hS : St _ [_] [_, _, _, _, _] _ := hS
      replace hS := hS.perm (.swap _ _ _)
      obtain ⟨xs9, zi, hzi, hil9, hS⟩ : ∃ xs9 z, Sl encI z _ xs9 ∧ xs9.length ≤ N + 1 ∧ St _ (z :: _) _ _ := odd_ints hS (by first | exact oi_same hxr (by omega) | exact oi_set hxr (by omega) (rng5 hb9 _) | exact oi_app hxr (by omega) (rng_getD hxr _) | exact oi_cut hxr (by omega) (by omega) | exact oi_set2 hxr (by omega) (rng_getD hxr _) (rng_getD hxr _))
      replace hS : St _ [_, _] [_, _, _, _] _ := hS
      obtain ⟨bl9, zb, hzb, hbl9, hS⟩ : ∃ bl9 z, Sl encT z _ bl9 ∧ bl9.length ≤ N + 1 ∧ St _ (z :: _) _ _ := odd_bools hS (by first | exact ob_same (by omega) | exact ob_set (by omega) | exact ob_app (by omega) | exact ob_cut (by omega) (by omega))
      replace hS : St _ [_, _, _] [_, _, _] _ := hS
      obtain ⟨zu, hzu, hS⟩ := hS.union
      exact fn_ret (rs := [.cell 6 26]) rfl hF hS (vs := [_]) ⟨⟨_, _, _, _, _, _, _, rfl, List.mem_of_getElem? (i := 1) rfl, ty26, .inl ⟨rfl, bQ, rfl⟩⟩, trivial⟩ (zs' := [zu]) (hs' := []) (List.singleton_sublist.2 (by simp)) zQ ⟨_, _, _, ns9, xs9, bl9, zu, rfl, hzn.mono (hzu _ (by simp)), hzi.mono (hzu _ (by simp)), hzb.mono (hzu _ (by simp)), hnl9, hil9, hbl9, (fun h => by cases h), rfl, rfl⟩
    ·refine wp_seq_k ?_; intro K24 hK24
     refine reg hF hS (sq rfl (q_eqi rfl rfl) <|
       sq rfl (q_assign rfl) <|
       sq_end) ?_
     clear hF hS; intro a w hF hS
     refine hK24 _ _ ?_
     clear hK24
     refine wp_ifd hF rfl (fun hc9 => ?_) (fun hc9 => ?_)
     ·refine regl ?_
      refine wpl_sq hF hS (sq rfl (q_fieldAddr ty26 rfl rfl (s' := 0) kQ) <|
        sq rfl (q_ld_blk1 ty24 3 rfl rfl rfl rfl) <|
        sq_end) ?_
      clear hF hS; intro a w hF hS
      refine wpl_ef hF hS rfl (ef_bsliceA ty24 ty4 rfl rfl oQ (by decide) rfl rfl) ?_
      clear hF hS; rintro v8 _ _ a w ⟨rfl, rfl⟩ hF hS
      replace hS : St _ [] [_, _, _, _, _, _, _] _ := hS
      refine wpl_ef hF hS rfl (ef_append ty24 ty4 1 rfl rfl rfl (src_row ty24 (k := 0) rfl oQ) bQ rfl (by decide)) ?_
      clear hF hS; rintro v10 _ _ a w ⟨rfl, rfl⟩ hF hS
      replace hS : St _ [] [_, _, _, _, _, _, _] _ := hS
      refine wpl_sq hF hS (sq rfl (q_fieldAddr ty26 rfl rfl (s' := 0) kQ) <|
        sq_end) ?_
      clear hF hS; intro a w hF hS
      refine wpl_ef hF hS rfl (ef_store1 ty24 4 rfl rfl rfl (row_one (hS.own _ (List.mem_of_getElem? (i := 1) rfl)).1) (by simp)) ?_
      clear hF hS; rintro _ _ _ a w ⟨rfl, rfl, rfl⟩ hF hS
      replace hS : St _ [] [_, _, _, _, .blk _ _ ([_, _, _].set 2 _), _, _] _ := hS
      simp only [List.set_cons_zero, List.set_cons_succ] at hS
      replace hS : St _ [] [_, _, _, _, _, _, _] _ := hS
      refine wpList_nil ?_
      refine hK4 _ _ ?_
      clear hK4
      refine wp_seq_k ?_; intro K25 hK25
      refine regl ?_
      refine wpl_sq hF hS (sq rfl (q_ld_blkW ty26 4 rfl rfl bQ rfl) <|
        sq_end) ?_
      clear hF hS; intro a w hF hS
      refine wpl_ef hF hS rfl (ef_storeW ty26 5 rfl rfl rfl rfl bQ (oc_cons (row_one (hS.own _ (List.mem_of_getElem? (i := 3) rfl)).1) (oc_cons (row_one (hS.own _ (List.mem_of_getElem? (i := 2) rfl)).1) (oc_cons (row_one (hS.own _ (List.mem_of_getElem? (i := 1) rfl)).1) oc_nil))) bQ) ?_
      clear hF hS; rintro _ _ _ a w ⟨rfl, rfl, rfl⟩ hF hS
      replace hS : St _ [] [_, _, _, _, _, _, _] _ := hS
      refine wpList_nil ?_
      refine hK25 _ _ ?_
      clear hK25
      refine wp_ret ?_
      replace hS := hS.perm (.cons _ (.cons _ (.swap _ _ _)))
      replace hS := hS.perm (.cons _ (.swap _ _ _))
      replace hS := hS.perm (.swap _ _ _)
      obtain ⟨ns9, zn, hzn, hnl9, hS⟩ : ∃ xs9 z, Sl (encC 2) z _ xs9 ∧ xs9.length ≤ N + 1 ∧ St _ (z :: _) _ _ := odd_names hS (by first | exact on_same hxc (by omega) | exact on_app hxc (by omega) (by omega))
      replace hS : St _ [_] [_, _, _, _, _, _] _ := hS
      replace hS := hS.perm (.cons _ (.swap _ _ _))
      replace hS := hS.perm (.swap _ _ _)
      obtain ⟨xs9, zi, hzi, hil9, hS⟩ : ∃ xs9 z, Sl encI z _ xs9 ∧ xs9.length ≤ N + 1 ∧ St _ (z :: _) _ _ := odd_ints hS (by first | exact oi_same hxr (by omega) | exact oi_set hxr (by omega) (rng5 hb9 _) | exact oi_app hxr (by omega) (rng_getD hxr _) | exact oi_cut hxr (by omega) (by omega) | exact oi_set2 hxr (by omega) (rng_getD hxr _) (rng_getD hxr _))
      replace hS : St _ [_, _] [_, _, _, _, _] _ := hS
      replace hS := hS.perm (.swap _ _ _)
      obtain ⟨bl9, zb, hzb, hbl9, hS⟩ : ∃ bl9 z, Sl encT z _ bl9 ∧ bl9.length ≤ N + 1 ∧ St _ (z :: _) _ _ := odd_bools hS (by first | exact ob_same (by omega) | exact ob_set (by omega) | exact ob_app (by omega) | exact ob_cut (by omega) (by omega))
      replace hS : St _ [_, _, _] [_, _, _, _] _ := hS
      obtain ⟨zu, hzu, hS⟩ := hS.union
      exact fn_ret (rs := [.cell 6 26]) rfl hF hS (vs := [_]) ⟨⟨_, _, _, _, _, _, _, rfl, List.mem_of_getElem? (i := 2) rfl, ty26, .inl ⟨rfl, bQ, rfl⟩⟩, trivial⟩ (zs' := [zu]) (hs' := []) (List.singleton_sublist.2 (by simp)) zQ ⟨_, _, _, ns9, xs9, bl9, zu, rfl, hzn.mono (hzu _ (by simp)), hzi.mono (hzu _ (by simp)), hzb.mono (hzu _ (by simp)), hnl9, hil9, hbl9, (fun h => by cases h), rfl, rfl⟩
     ·refine wp_seq_k ?_; intro K26 hK26
      refine reg hF hS (sq rfl (q_eqi rfl rfl) <|
        sq rfl (q_assign rfl) <|
        sq_end) ?_
      clear hF hS; intro a w hF hS
      refine hK26 _ _ ?_
      clear hK26
      refine wp_ifd hF rfl (fun hc10 => ?_) (fun hc10 => ?_)
      ·refine wp_seq_k ?_; intro K27 hK27
       refine reg hF hS (sq rfl (q_fieldAddr ty26 rfl rfl (s' := 0) kQ) <|
         sq rfl (q_ld_blk1 ty23 3 rfl rfl rfl rfl) <|
         sq rfl (q_len_row ty23 2 rfl rfl) <|
         sq rfl (q_gti rfl rfl) <|
         sq_end) ?_
       clear hF hS; intro a w hF hS
       refine hK27 _ _ ?_
       clear hK27
       refine wp_ifd hF rfl (fun hc11 => ?_) (fun hc11 => ?_)
       ·revert hS; revert hF; apply regJ (J := J2 (α0 := Value) (α1 := Value) 166 _ _ _ _ _) #[false, false, false, false, false, false, false, false, false, false] 10 mixed rfl rfl
        ·intro w hF hS
         refine goW_take 0 _ rfl kQ rfl hF (hS.keep sQ zQ) (q_fieldAddr ty26 rfl rfl (s' := 0) kQ) ?_
         clear hF; intro a hF
         refine goW_take 1 _ rfl kQ rfl hF (hS.keep sQ (zQ.k.n.n.n)) (q_ld_blk1 ty23 0 rfl rfl rfl rfl) ?_
         clear hF; intro a hF
         refine goW_take 2 _ rfl kQ rfl hF (hS.keep sQ zQ) (q_fieldAddr ty26 rfl rfl (s' := 0) kQ) ?_
         clear hF; intro a hF
         refine goW_take 3 _ rfl kQ rfl hF (hS.keep sQ (zQ.k.n.n.n)) (q_ld_blk1 ty23 0 rfl rfl rfl rfl) ?_
         clear hF; intro a hF
         refine goW_take 4 _ rfl kQ rfl hF (hS.keep sQ (zQ.k.n.n)) (q_idx_row ty23 ty83 0 rfl rfl rfl (by omega)) ?_
         clear hF; intro a hF
         refine goW_take 5 _ rfl kQ rfl hF (hS.keep sQ (zQ.k.n.n)) (q_ld_rowC ty83 0 xn 0 rfl (fun x hx => (hxc x hx).1) rfl (by omega) (by decide) rfl) ?_
         clear hF; intro a hF
         refine gQ 6 rfl rfl hF hS rfl (ef_bsliceW ty23 ty83 rfl (hx0 (by omega)).1 (by decide) (hx0 (by omega)).2 (by decide) (by decide)) ?_
         clear hF hS; rintro v_24_6 _ _ a w ⟨rfl, rfl⟩ hF hS
         refine ⟨⟨iQ, iQ, .inr (hS.k1 (zQ.k.n.n.n.n)), .inr hS.k0, .inr (hS.k1 (zQ.k.n.n.n.n)), .inr hS.k0, trivial⟩, ?_⟩
         refine gQ 7 rfl rfl hF hS rfl (ef_append ty23 ty83 3 rfl rfl rfl (src_row ty23 (k := 0) rfl (hx0 (by omega)).2) bQ rfl (by decide)) ?_
         clear hF hS; rintro v_24_7 _ _ a w ⟨rfl, rfl⟩ hF hS
         refine ⟨⟨iQ, iQ, .inr (hS.k1 (zQ.k.n.n.n.n)), .inr hS.k0, iQ, iQ, trivial⟩, ?_⟩
         refine goW_take 8 _ rfl kQ rfl hF (hS.keep sQ zQ) (q_fieldAddr ty26 rfl rfl (s' := 0) kQ) ?_
         clear hF; intro a hF
         refine gQ 9 rfl rfl hF hS rfl (ef_store1 ty23 4 rfl rfl rfl (row_one (hS.own _ (List.mem_of_getElem? (i := 3) rfl)).1) (by simp)) ?_
         clear hF hS; rintro _ _ _ a w ⟨rfl, rfl, rfl⟩ hF hS
         replace hS : St _ [] [_, _, _, _, .blk _ _ ([_, _, _].set 0 _), _, _] _ := hS
         simp only [List.set_cons_zero, List.set_cons_succ] at hS
         replace hS : St _ [] [_, _, _, _, _, _, _] _ := hS
         refine ⟨⟨iQ, iQ, iQ, iQ, iQ, iQ, iQ, trivial⟩, ?_⟩
         exact goW_done kQ (j2_mk v_24_6 v_24_7 (trivial) (hF.sub (L' := [(6, _), (7, _)]) ⟨rfl, rfl, trivial⟩) hS)
        rintro a w ⟨v_24_6, v_24_7, -, hF, hS⟩
        (try dsimp only at hF); (try dsimp only at hS)
        refine hK4 _ _ ?_
        clear hK4
        refine wp_seq_k ?_; intro K28 hK28
        refine regl ?_
        refine wpl_sq hF hS (sq rfl (q_ld_blkW ty26 4 rfl rfl bQ rfl) <|
          sq_end) ?_
        clear hF hS; intro a w hF hS
        refine wpl_ef hF hS rfl (ef_storeW ty26 5 rfl rfl rfl rfl bQ (oc_cons (row_one (hS.own _ (List.mem_of_getElem? (i := 3) rfl)).1) (oc_cons (row_one (hS.own _ (List.mem_of_getElem? (i := 2) rfl)).1) (oc_cons (row_one (hS.own _ (List.mem_of_getElem? (i := 1) rfl)).1) oc_nil))) bQ) ?_
        clear hF hS; rintro _ _ _ a w ⟨rfl, rfl, rfl⟩ hF hS
        replace hS : St _ [] [_, _, _, _, _, _, _] _ := hS
        refine wpList_nil ?_
        refine hK28 _ _ ?_
        clear hK28
        refine wp_ret ?_
        replace hS := hS.perm (.cons _ (.cons _ (.swap _ _ _)))
        replace hS := hS.perm (.cons _ (.swap _ _ _))
        replace hS := hS.perm (.swap _ _ _)
        obtain ⟨ns9, zn, hzn, hnl9, hS⟩ : ∃ xs9 z, Sl (encC 2) z _ xs9 ∧ xs9.length ≤ N + 1 ∧ St _ (z :: _) _ _ := odd_names hS (by first | exact on_same hxc (by omega) | exact on_app hxc (by omega) (by omega))
        replace hS : St _ [_] [_, _, _, _, _, _] _ := hS
        replace hS := hS.perm (.cons _ (.swap _ _ _))
        replace hS := hS.perm (.swap _ _ _)
        obtain ⟨xs9, zi, hzi, hil9, hS⟩ : ∃ xs9 z, Sl encI z _ xs9 ∧ xs9.length ≤ N + 1 ∧ St _ (z :: _) _ _ := odd_ints hS (by first | exact oi_same hxr (by omega) | exact oi_set hxr (by omega) (rng5 hb9 _) | exact oi_app hxr (by omega) (rng_getD hxr _) | exact oi_cut hxr (by omega) (by omega) | exact oi_set2 hxr (by omega) (rng_getD hxr _) (rng_getD hxr _))
        replace hS : St _ [_, _] [_, _, _, _, _] _ := hS
        replace hS := hS.perm (.swap _ _ _)
        obtain ⟨bl9, zb, hzb, hbl9, hS⟩ : ∃ bl9 z, Sl encT z _ bl9 ∧ bl9.length ≤ N + 1 ∧ St _ (z :: _) _ _ := odd_bools hS (by first | exact ob_same (by omega) | exact ob_set (by omega) | exact ob_app (by omega) | exact ob_cut (by omega) (by omega))
        replace hS : St _ [_, _, _] [_, _, _, _] _ := hS
        obtain ⟨zu, hzu, hS⟩ := hS.union
        exact fn_ret (rs := [.cell 6 26]) rfl hF hS (vs := [_]) ⟨⟨_, _, _, _, _, _, _, rfl, List.mem_of_getElem? (i := 2) rfl, ty26, .inl ⟨rfl, bQ, rfl⟩⟩, trivial⟩ (zs' := [zu]) (hs' := []) (List.singleton_sublist.2 (by simp)) zQ ⟨_, _, _, ns9, xs9, bl9, zu, rfl, hzn.mono (hzu _ (by simp)), hzi.mono (hzu _ (by simp)), hzb.mono (hzu _ (by simp)), hnl9, hil9, hbl9, (fun h => by cases h), rfl, rfl⟩
       ·refine wp_skip ?_
        refine hK4 _ _ ?_
        clear hK4
        refine wp_seq_k ?_; intro K29 hK29
        refine regl ?_
        refine wpl_sq hF hS (sq rfl (q_ld_blkW ty26 3 rfl rfl bQ rfl) <|
          sq_end) ?_
        clear hF hS; intro a w hF hS
        refine wpl_ef hF hS rfl (ef_storeW ty26 4 rfl rfl rfl rfl bQ (oc_cons (row_one (hS.own _ (List.mem_of_getElem? (i := 2) rfl)).1) (oc_cons (row_one (hS.own _ (List.mem_of_getElem? (i := 1) rfl)).1) (oc_cons (row_one (hS.own _ (List.mem_of_getElem? (i := 0) rfl)).1) oc_nil))) bQ) ?_
        clear hF hS; rintro _ _ _ a w ⟨rfl, rfl, rfl⟩ hF hS
        replace hS : St _ [] [_, _, _, _, _, _] _ := hS
        refine wpList_nil ?_
        refine hK29 _ _ ?_
        clear hK29
        refine wp_ret ?_
        replace hS := hS.perm (.cons _ (.swap _ _ _))
        replace hS := hS.perm (.swap _ _ _)
        obtain ⟨ns9, zn, hzn, hnl9, hS⟩ : ∃ xs9 z, Sl (encC 2) z _ xs9 ∧ xs9.length ≤ N + 1 ∧ St _ (z :: _) _ _ := odd_names hS (by first | exact on_same hxc (by omega) | exact on_app hxc (by omega) (by omega))
        replace hS : St _ [_] [_, _, _, _, _] _ := hS
        replace hS := hS.perm (.swap _ _ _)
        obtain ⟨xs9, zi, hzi, hil9, hS⟩ : ∃ xs9 z, Sl encI z _ xs9 ∧ xs9.length ≤ N + 1 ∧ St _ (z :: _) _ _ := odd_ints hS (by first | exact oi_same hxr (by omega) | exact oi_set hxr (by omega) (rng5 hb9 _) | exact oi_app hxr (by omega) (rng_getD hxr _) | exact oi_cut hxr (by omega) (by omega) | exact oi_set2 hxr (by omega) (rng_getD hxr _) (rng_getD hxr _))
        replace hS : St _ [_, _] [_, _, _, _] _ := hS
        obtain ⟨bl9, zb, hzb, hbl9, hS⟩ : ∃ bl9 z, Sl encT z _ bl9 ∧ bl9.length ≤ N + 1 ∧ St _ (z :: _) _ _ := odd_bools hS (by first | exact ob_same (by omega) | exact ob_set (by omega) | exact ob_app (by omega) | exact ob_cut (by omega) (by omega))
        replace hS : St _ [_, _, _] [_, _, _] _ := hS
        obtain ⟨zu, hzu, hS⟩ := hS.union
        exact fn_ret (rs := [.cell 6 26]) rfl hF hS (vs := [_]) ⟨⟨_, _, _, _, _, _, _, rfl, List.mem_of_getElem? (i := 1) rfl, ty26, .inl ⟨rfl, bQ, rfl⟩⟩, trivial⟩ (zs' := [zu]) (hs' := []) (List.singleton_sublist.2 (by simp)) zQ ⟨_, _, _, ns9, xs9, bl9, zu, rfl, hzn.mono (hzu _ (by simp)), hzi.mono (hzu _ (by simp)), hzb.mono (hzu _ (by simp)), hnl9, hil9, hbl9, (fun h => by cases h), rfl, rfl⟩
      ·refine wp_seq_k ?_; intro K30 hK30
       refine reg hF hS (sq rfl (q_fieldAddr ty26 rfl rfl (s' := 0) kQ) <|
         sq rfl (q_ld_blk1 ty22 3 rfl rfl rfl rfl) <|
         sq rfl (q_len_row ty22 1 rfl rfl) <|
         sq rfl (q_gti rfl rfl) <|
         sq_end) ?_
       clear hF hS; intro a w hF hS
       refine hK30 _ _ ?_
       clear hK30
       refine wp_ifd hF rfl (fun hc12 => ?_) (fun hc12 => ?_)
       ·revert hS; revert hF; apply regJ (J := J0 166 _ _ _ _ _) #[false, false, false, false, false, false, false, false, false, false, false, false, false, false, false, false, false, false] 18 mixed rfl rfl
        ·intro w hF hS
         refine goW_take 0 _ rfl kQ rfl hF (hS.keep sQ zQ) (q_fieldAddr ty26 rfl rfl (s' := 0) kQ) ?_
         clear hF; intro a hF
         refine goW_take 1 _ rfl kQ rfl hF (hS.keep sQ (zQ.k.n.n.n)) (q_ld_blk1 ty22 0 rfl rfl rfl rfl) ?_
         clear hF; intro a hF
         refine goW_take 2 _ rfl kQ rfl hF (hS.keep sQ zQ) (q_fieldAddr ty26 rfl rfl (s' := 0) kQ) ?_
         clear hF; intro a hF
         refine goW_take 3 _ rfl kQ rfl hF (hS.keep sQ (zQ.k.n.n.n)) (q_ld_blk1 ty22 0 rfl rfl rfl rfl) ?_
         clear hF; intro a hF
         refine goW_take 4 _ rfl kQ rfl hF (hS.keep sQ zQ) (q_move rfl) ?_
         clear hF; intro a hF
         refine goW_take 5 _ rfl kQ rfl hF (hS.keep sQ zQ) (q_fieldAddr ty26 rfl rfl (s' := 0) kQ) ?_
         clear hF; intro a hF
         refine goW_take 6 _ rfl kQ rfl hF (hS.keep sQ (zQ.k.n.n.n)) (q_ld_blk1 ty22 0 rfl rfl rfl rfl) ?_
         clear hF; intro a hF
         refine goW_take 7 _ rfl kQ rfl hF (hS.keep sQ zQ) (q_move rfl) ?_
         clear hF; intro a hF
         refine goW_take 8 _ rfl kQ rfl hF (hS.keep sQ (zQ.k.n)) (q_idx_row ty22 ty3 0 rfl rfl rfl (by omega)) ?_
         clear hF; intro a hF
         refine goW_take 9 _ rfl kQ rfl hF (hS.keep sQ (zQ.k.n)) (q_ld_rowM ty3 0 (0 : Int) rfl rfl bQ rfl) ?_
         clear hF; intro a hF
         refine goW_take 10 _ rfl kQ rfl hF (hS.keep sQ zQ) (q_fieldAddr ty26 rfl rfl (s' := 0) kQ) ?_
         clear hF; intro a hF
         refine goW_take 11 _ rfl kQ rfl hF (hS.keep sQ (zQ.k.n.n.n)) (q_ld_blk1 ty22 0 rfl rfl rfl rfl) ?_
         clear hF; intro a hF
         refine goW_take 12 _ rfl kQ rfl hF (hS.keep sQ (zQ.k.n)) (q_idx_row ty22 ty3 0 rfl rfl rfl (by omega)) ?_
         clear hF; intro a hF
         refine goW_take 13 _ rfl kQ rfl hF (hS.keep sQ (zQ.k.n)) (q_ld_rowM ty3 0 (0 : Int) rfl rfl bQ rfl) ?_
         clear hF; intro a hF
         refine goW_take 14 _ rfl kQ rfl hF (hS.keep sQ (zQ.k.n)) (q_idx_row ty22 ty3 0 rfl rfl rfl (by omega)) ?_
         clear hF; intro a hF
         refine gQ 15 rfl rfl hF hS rfl (ef_st_row ty3 1 rfl rfl rfl (by omega) rfl) ?_
         clear hF hS; rintro _ _ _ a w ⟨rfl, rfl, rfl⟩ hF hS
         refine ⟨⟨iQ, iQ, iQ, .inr (hS.k1 (zQ.k.n.n.n)), .inr hS.k0, iQ, iQ, iQ, iQ, iQ, .inr hS.k0, .inr (hS.k1 (zQ.k.n.n.n)), .inr hS.k0, iQ, iQ, trivial⟩, ?_⟩
         refine goW_take 16 _ rfl kQ rfl hF (hS.keep sQ (zQ.k.n)) (q_idx_row ty22 ty3 0 rfl rfl rfl (by omega)) ?_
         clear hF; intro a hF
         refine gQ 17 rfl rfl hF hS rfl (ef_st_row ty3 1 rfl rfl rfl (by omega) rfl) ?_
         clear hF hS; rintro _ _ _ a w ⟨rfl, rfl, rfl⟩ hF hS
         refine ⟨⟨iQ, iQ, iQ, iQ, iQ, iQ, iQ, iQ, iQ, iQ, iQ, iQ, iQ, iQ, iQ, iQ, trivial⟩, ?_⟩
         exact goW_done kQ (j0_mk  (trivial) (hF.sub (L' := [(6, _), (7, _)]) ⟨rfl, rfl, trivial⟩) hS)
        rintro a w ⟨-, hF, hS⟩
        (try dsimp only at hF); (try dsimp only at hS)
        refine hK4 _ _ ?_
        clear hK4
        refine wp_seq_k ?_; intro K31 hK31
        refine regl ?_
        refine wpl_sq hF hS (sq rfl (q_ld_blkW ty26 3 rfl rfl bQ rfl) <|
          sq_end) ?_
        clear hF hS; intro a w hF hS
        refine wpl_ef hF hS rfl (ef_storeW ty26 4 rfl rfl rfl rfl bQ (oc_cons (row_one (hS.own _ (List.mem_of_getElem? (i := 2) rfl)).1) (oc_cons (row_one (hS.own _ (List.mem_of_getElem? (i := 1) rfl)).1) (oc_cons (row_one (hS.own _ (List.mem_of_getElem? (i := 0) rfl)).1) oc_nil))) bQ) ?_
        clear hF hS; rintro _ _ _ a w ⟨rfl, rfl, rfl⟩ hF hS
        replace hS : St _ [] [_, _, _, _, _, _] _ := hS
        refine wpList_nil ?_
        refine hK31 _ _ ?_
        clear hK31
        refine wp_ret ?_
        replace hS := hS.perm (.cons _ (.swap _ _ _))
        replace hS := hS.perm (.swap _ _ _)
        obtain ⟨ns9, zn, hzn, hnl9, hS⟩ : ∃ xs9 z, Sl (encC 2) z _ xs9 ∧ xs9.length ≤ N + 1 ∧ St _ (z :: _) _ _ := odd_names hS (by first | exact on_same hxc (by omega) | exact on_app hxc (by omega) (by omega))
        replace hS : St _ [_] [_, _, _, _, _] _ := hS
        replace hS := hS.perm (.swap _ _ _)
        obtain ⟨xs9, zi, hzi, hil9, hS⟩ : ∃ xs9 z, Sl encI z _ xs9 ∧ xs9.length ≤ N + 1 ∧ St _ (z :: _) _ _ := odd_ints hS (by first | exact oi_same hxr (by omega) | exact oi_set hxr (by omega) (rng5 hb9 _) | exact oi_app hxr (by omega) (rng_getD hxr _) | exact oi_cut hxr (by omega) (by omega) | exact oi_set2 hxr (by omega) (rng_getD hxr _) (rng_getD hxr _))
        replace hS : St _ [_, _] [_, _, _, _] _ := hS
        obtain ⟨bl9, zb, hzb, hbl9, hS⟩ : ∃ bl9 z, Sl encT z _ bl9 ∧ bl9.length ≤ N + 1 ∧ St _ (z :: _) _ _ := odd_bools hS (by first | exact ob_same (by omega) | exact ob_set (by omega) | exact ob_app (by omega) | exact ob_cut (by omega) (by omega))
        replace hS : St _ [_, _, _] [_, _, _] _ := hS
        obtain ⟨zu, hzu, hS⟩ := hS.union
        exact fn_ret (rs := [.cell 6 26]) rfl hF hS (vs := [_]) ⟨⟨_, _, _, _, _, _, _, rfl, List.mem_of_getElem? (i := 1) rfl, ty26, .inl ⟨rfl, bQ, rfl⟩⟩, trivial⟩ (zs' := [zu]) (hs' := []) (List.singleton_sublist.2 (by simp)) zQ ⟨_, _, _, ns9, xs9, bl9, zu, rfl, hzn.mono (hzu _ (by simp)), hzi.mono (hzu _ (by simp)), hzb.mono (hzu _ (by simp)), hnl9, hil9, hbl9, (fun h => by cases h), rfl, rfl⟩
       ·refine wp_skip ?_
        refine hK4 _ _ ?_
        clear hK4
        refine wp_seq_k ?_; intro K32 hK32
        refine regl ?_
        refine wpl_sq hF hS (sq rfl (q_ld_blkW ty26 3 rfl rfl bQ rfl) <|
          sq_end) ?_
        clear hF hS; intro a w hF hS
        refine wpl_ef hF hS rfl (ef_storeW ty26 4 rfl rfl rfl rfl bQ (oc_cons (row_one (hS.own _ (List.mem_of_getElem? (i := 2) rfl)).1) (oc_cons (row_one (hS.own _ (List.mem_of_getElem? (i := 1) rfl)).1) (oc_cons (row_one (hS.own _ (List.mem_of_getElem? (i := 0) rfl)).1) oc_nil))) bQ) ?_
        clear hF hS; rintro _ _ _ a w ⟨rfl, rfl, rfl⟩ hF hS
        replace hS : St _ [] [_, _, _, _, _, _] _ := hS
        refine wpList_nil ?_
        refine hK32 _ _ ?_
        clear hK32
        refine wp_ret ?_
        replace hS := hS.perm (.cons _ (.swap _ _ _))
        replace hS := hS.perm (.swap _ _ _)
        obtain ⟨ns9, zn, hzn, hnl9, hS⟩ : ∃ xs9 z, Sl (encC 2) z _ xs9 ∧ xs9.length ≤ N + 1 ∧ St _ (z :: _) _ _ := odd_names hS (by first | exact on_same hxc (by omega) | exact on_app hxc (by omega) (by omega))
        replace hS : St _ [_] [_, _, _, _, _] _ := hS
        replace hS := hS.perm (.swap _ _ _)
        obtain ⟨xs9, zi, hzi, hil9, hS⟩ : ∃ xs9 z, Sl encI z _ xs9 ∧ xs9.length ≤ N + 1 ∧ St _ (z :: _) _ _ := odd_ints hS (by first | exact oi_same hxr (by omega) | exact oi_set hxr (by omega) (rng5 hb9 _) | exact oi_app hxr (by omega) (rng_getD hxr _) | exact oi_cut hxr (by omega) (by omega) | exact oi_set2 hxr (by omega) (rng_getD hxr _) (rng_getD hxr _))
        replace hS : St _ [_, _] [_, _, _, _] _ := hS
        obtain ⟨bl9, zb, hzb, hbl9, hS⟩ : ∃ bl9 z, Sl encT z _ bl9 ∧ bl9.length ≤ N + 1 ∧ St _ (z :: _) _ _ := odd_bools hS (by first | exact ob_same (by omega) | exact ob_set (by omega) | exact ob_app (by omega) | exact ob_cut (by omega) (by omega))
        replace hS : St _ [_, _, _] [_, _, _] _ := hS
        obtain ⟨zu, hzu, hS⟩ := hS.union
        exact fn_ret (rs := [.cell 6 26]) rfl hF hS (vs := [_]) ⟨⟨_, _, _, _, _, _, _, rfl, List.mem_of_getElem? (i := 1) rfl, ty26, .inl ⟨rfl, bQ, rfl⟩⟩, trivial⟩ (zs' := [zu]) (hs' := []) (List.singleton_sublist.2 (by simp)) zQ ⟨_, _, _, ns9, xs9, bl9, zu, rfl, hzn.mono (hzu _ (by simp)), hzi.mono (hzu _ (by simp)), hzb.mono (hzu _ (by simp)), hnl9, hil9, hbl9, (fun h => by cases h), rfl, rfl⟩
end Go.Proofs.Ytefjpigmgmbghaa
