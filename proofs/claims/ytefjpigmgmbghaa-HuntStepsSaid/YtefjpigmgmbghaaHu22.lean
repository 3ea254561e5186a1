/- A text of a proof over this seat: walks over the program's functions and the plain laws that they need. -/
import Derived.Test.YtefjpigmgmbghaaHu21
import Derived.Test.YtefjpigmgmbghaaHpA
import Derived.Test.YtefjpigmgmbghaaFwD
import Derived.Test.YtefjpigmgmbghaaFwB
import Derived.Test.YtefjpigmgmbghaaGpA
set_option linter.all false
namespace Go.Proofs.Ytefjpigmgmbghaa
open Go.Fw


/-- The lattice of closed sets; which of them build is the caller's. -/
def LatS (r : Value) (zs : List PH) (hs : List Res) : Prop :=
 ∃ (nv sv bv : Value) (ns : List (List Value)) (xs : List Int) (bl : List Bool) (z : PH), r = .agg [nv, sv, bv].toArray ∧ Sl (encC 2) z nv ns ∧ Sl encI z sv xs ∧ (ns.length ≤ 5 ∧ xs.length ≤ 32 ∧ bl.length = xs.length ∧ Gu.Fam xs ∧ Hu.Stp ns.length xs) ∧ zs = [z] ∧ hs = [.row bv 4 1 bl.length (bl.map vt)]

set_option maxRecDepth 4000 in
set_option maxHeartbeats 2000000 in
theorem family3_ct (v : Value) (l : List Int) (w : World) (hb : Sl encI (ph w) v l) : Ct Try.prog 10 [v] w (LatS) := by
 refine fn_enter Try.func10 rfl Try.ntmps10 (Nat.le_of_ble_eq_true rfl) fun a hF hS => ?_
 have hbl := hb.1
 refine wp_seq_k ?_; intro K1 hK1
 refine regl ?_
 refine wpl_ef hF hS rfl (ef_allocA ty26) ?_
 clear hF hS; rintro _ _ _ a w ⟨b1, rfl, rfl, rfl⟩ hF hS
 refine wpList_nil ?_
 refine hK1 _ _ ?_
 clear hK1
 refine wp_seq_k ?_; intro K2 hK2
 refine reg hF hS (sq rfl (q_move rfl) <|
   sq rfl (q_call fn21 rfl (fun w hS => at_ct _ _ _ _ (by omega) w (Sl.mono (hS.le zin0) hb)) (fun _ _ _ h => h)) <|
   sq rfl (q_assign rfl) <|
   sq_end) ?_
 clear hF hS; intro a w hF hS
 have hnr := Gu.atN_range (l := l) (i := 0) (m := 6) (by decide)
 obtain ⟨N, hN⟩ : ∃ N, N = Gu.atN l 0 6 := ⟨_, rfl⟩
 rw [← hN] at hF hnr
 have hpN := pw_le (x := N) (by omega)
 refine hK2 _ _ ?_
 clear hK2
 refine wp_seq_k ?_; intro K3 hK3
 refine regl ?_
 refine wpl_ef hF hS rfl (ef_allocA ty26) ?_
 clear hF hS; rintro _ _ _ a w ⟨b2, rfl, rfl, rfl⟩ hF hS
 refine wpList_nil ?_
 replace hS := hS.nilRow 83 2
 replace hS : St _ [] [_, _, _] _ := hS
 refine hK3 _ _ ?_
 clear hK3
 refine wp_seq_k ?_; intro K4 hK4
 refine wp_seq_k ?_; intro K5 hK5
 refine reg hF hS (sq rfl (q_assign rfl) <|
   sq_end) ?_
 clear hF hS; intro a w hF hS
 refine hK5 _ _ ?_
 clear hK5
 refine wp_block ?_
 obtain ⟨hs0, hhs0, hS⟩ : ∃ h, h = _ ∧ St _ _ h _ := ⟨_, rfl, hS⟩
 refine wp_loopx (γ := Value × List (List Value) × Int) ((Value.slice none 0 0), [], 0) (fun (gg : Value × List (List Value) × Int) => match gg with | (u, ns, i) => [(5, vi i)]) [(0, _), (2, _), (3, _), (4, _)] (fun (gg : Value × List (List Value) × Int) => match gg with | (u, ns, i) => ((hs0.set 1 (.blk b2 26 [u, .slice none 0 0, .slice none 0 0])).set 0 (.row u 83 2 ns.length ns.flatten))) (fun (gg : Value × List (List Value) × Int) => match gg with | (u, ns, i) => 0 ≤ i ∧ i ≤ N ∧ (ns.length : Int) = i ∧ ∀ x ∈ ns, x.length = 2 ∧ ∀ u ∈ x, u.oneCell' = true) (fun (gg : Value × List (List Value) × Int) => match gg with | (u, ns, i) => (N - i).toNat) (hF.sub ⟨rfl, rfl, rfl, rfl, rfl, trivial⟩) (by subst hhs0; exact hS) (by exact ⟨Int.le_refl _, by omega, rfl, fun x hx => by cases hx⟩) ?_
 clear hF hS; rintro ⟨u, ns, i⟩ a w hfact hF hS
 subst hhs0; (try dsimp only at hfact); (try dsimp only at hF); (try dsimp only at hS)
 obtain ⟨hi0, hi1, hnl, hnm⟩ := hfact
 replace hS : St _ [] [_, _, _] _ := hS
 refine wp_seq_k ?_; intro K6 hK6
 refine wp_seq_k ?_; intro K7 hK7
 refine reg hF hS (sq rfl (q_move rfl) <|
   sq rfl (q_move rfl) <|
   sq rfl (q_lti rfl rfl) <|
   sq_end) ?_
 clear hF hS; intro a w hF hS
 refine hK7 _ _ ?_
 clear hK7
 refine wp_ifd hF rfl (fun hc1 => ?_) (fun hc1 => ?_)
 ·refine wp_skip ?_
  refine hK6 _ _ ?_
  clear hK6
  refine wp_seq_k ?_; intro K8 hK8
  refine wp_block ?_
  refine regl ?_
  refine wpl_sq hF hS (sq rfl (q_fieldAddr ty26 rfl rfl (s' := 0) kQ) <|
    sq rfl (q_ld_blk1 ty23 1 rfl rfl rfl rfl) <|
    sq rfl (q_move rfl) <|
    sq rfl (q_quoi rfl rfl (by omega)) <|
    sq rfl (q_move rfl) <|
    sq rfl (q_remi rfl rfl (by omega)) <|
    sq rfl (q_buildS1 ty83 2 kQ rfl rfl (oc_cons rfl (oc_cons rfl oc_nil)) rfl rfl) <|
    sq_end) ?_
  clear hF hS; intro a w hF hS
  refine wpl_ef hF hS rfl (ef_bsliceW ty23 ty83 rfl bQ (by decide) oQ (by decide) (by decide)) ?_
  clear hF hS; rintro v4 _ _ a w ⟨rfl, rfl⟩ hF hS
  replace hS : St _ [] [_, _, _, _] _ := hS
  refine wpl_ef hF hS rfl (ef_append ty23 ty83 1 rfl rfl rfl (src_row ty23 (k := 0) rfl oQ) bQ rfl (by decide)) ?_
  clear hF hS; rintro v6 _ _ a w ⟨rfl, rfl⟩ hF hS
  replace hS : St _ [] [_, _, _, _] _ := hS
  refine wpl_sq hF hS (sq rfl (q_fieldAddr ty26 rfl rfl (s' := 0) kQ) <|
    sq_end) ?_
  clear hF hS; intro a w hF hS
  refine wpl_ef hF hS rfl (ef_store1 ty23 2 rfl rfl rfl (row_one (hS.own _ (List.mem_of_getElem? (i := 1) rfl)).1) (by simp)) ?_
  clear hF hS; rintro _ _ _ a w ⟨rfl, rfl, rfl⟩ hF hS
  replace hS : St _ [] [_, _, .blk _ _ ([_, _, _].set 0 _), _] _ := hS
  simp only [List.set_cons_zero, List.set_cons_succ] at hS
  replace hS : St _ [] [_, _, _, _] _ := hS
  refine wpList_nil ?_
  refine hK8 _ _ ?_
  clear hK8
  refine reg hF hS (sq rfl (q_move rfl) <|
    sq rfl (q_addi rfl rfl (by omega)) <|
    sq rfl (q_assign rfl) <|
    sq_end) ?_
  clear hF hS; intro a w hF hS
  replace hS := hS.keep zQ (sQ.n)
  refine ⟨(v6, ns ++ [[vi (i / 3), vi (i % 3)]], i + 1), ?_, ?_, hF.sub ⟨rfl, rfl, rfl, rfl, rfl, trivial⟩, ?_⟩
  ·(try dsimp only); omega
  ·refine ⟨by omega, by omega, by simp; omega, fun x hx => ?_⟩
   rcases List.mem_append.1 hx with hx | hx
   ·exact hnm x hx
   ·obtain rfl := List.mem_singleton.1 hx; exact ⟨rfl, by simp [Value.oneCell']⟩
  ·dsimp only; rw [List.flatten_append, List.length_append]; exact hS
 ·refine wp_exit ?_
  refine hK4 _ _ ?_
  clear hK4
  refine wp_seq_k ?_; intro K9 hK9
  refine reg hF hS (sq rfl (q_assign rfl) <|
    sq_end) ?_
  clear hF hS; intro a w hF hS
  replace hS := hS.nilRow 3 1
  refine hK9 _ _ ?_
  clear hK9
  refine wp_seq_k ?_; intro K10 hK10
  refine wp_seq_k ?_; intro K11 hK11
  refine reg hF hS (sq rfl (q_assign rfl) <|
    sq_end) ?_
  clear hF hS; intro a w hF hS
  refine hK11 _ _ ?_
  clear hK11
  refine wp_block ?_
  obtain ⟨hs0, hhs0, hS⟩ : ∃ h, h = _ ∧ St _ _ h _ := ⟨_, rfl, hS⟩
  refine wp_loopx (γ := Value × List Int × Int) ((Value.slice none 0 0), [], 0) (fun (gg : Value × List Int × Int) => match gg with | (u2, ys, e) => [(6, u2), (7, vi e)]) [(0, _), (2, _), (3, _), (4, _)] (fun (gg : Value × List Int × Int) => match gg with | (u2, ys, e) => (hs0.set 0 (.row u2 3 1 ys.length (ys.map vi)))) (fun (gg : Value × List Int × Int) => match gg with | (u2, ys, e) => 0 ≤ e ∧ e ≤ (1 * 2 ^ (min ((ofq N).toNat : Int).toNat 64) : Int) ∧ (ys.length : Int) ≤ e ∧ (∀ y ∈ ys, 0 ≤ y ∧ y < e) ∧ (ys.Pairwise fun a b => a < b) ∧ (0 < e → 0 < ys.length) ∧ ∀ y, y ∈ ys ↔ (0 ≤ y ∧ y < e) ∧ Hu.clB (Hu.famG l) N.toNat y = true) (fun (gg : Value × List Int × Int) => match gg with | (u2, ys, e) => ((1 * 2 ^ (min ((ofq N).toNat : Int).toNat 64) : Int) - e).toNat) (hF.sub ⟨rfl, rfl, rfl, rfl, rfl, rfl, trivial⟩) (by subst hhs0; exact hS) (by exact ⟨Int.le_refl _, by omega, by simp, fun x hx => (by cases hx), List.Pairwise.nil, fun h => absurd h (by omega), fun y => ⟨fun h => (by cases h), fun h => absurd h.1 (by omega)⟩⟩) ?_
  clear hF hS; rintro ⟨u2, ys, e⟩ a w hfact hF hS
  subst hhs0; (try dsimp only at hfact); (try dsimp only at hF); (try dsimp only at hS)
  obtain ⟨he0, he1, hyl, hym, hyp, hyn, hyi⟩ := hfact
  replace hS : St _ [] [_, _, _, _] _ := hS
  have hrg : ∀ y ∈ ys, -9223372036854775808 ≤ y ∧ y ≤ 9223372036854775807 := fun y hy => by have := hym y hy; omega
  refine wp_seq_k ?_; intro K12 hK12
  refine wp_seq_k ?_; intro K13 hK13
  refine reg hF hS (sq rfl (q_move rfl) <|
    sq rfl (q_move rfl) <|
    sq rfl (q_cv_iq ty3 ty72 rfl) <|
    sq rfl (q_shli rfl rfl (by omega) (by omega)) <|
    sq rfl (q_lti rfl rfl) <|
    sq_end) ?_
  clear hF hS; intro a w hF hS
  refine hK13 _ _ ?_
  clear hK13
  refine wp_ifd hF rfl (fun hc2 => ?_) (fun hc2 => ?_)
  ·refine wp_skip ?_
   refine hK12 _ _ ?_
   clear hK12
   refine wp_seq_k ?_; intro K14 hK14
   refine wp_block ?_
   refine wp_seq_k ?_; intro K15 hK15
   refine reg hF hS (sq rfl (q_assign rfl) <|
     sq_end) ?_
   clear hF hS; intro a w hF hS
   refine hK15 _ _ ?_
   clear hK15
   refine wp_seq_k ?_; intro K16 hK16
   refine wp_seq_k ?_; intro K17 hK17
   refine reg hF hS (sq rfl (q_assign rfl) <|
     sq_end) ?_
   clear hF hS; intro a w hF hS
   refine hK17 _ _ ?_
   clear hK17
   refine wp_block ?_
   obtain ⟨hs0, hhs0, hS⟩ : ∃ h, h = _ ∧ St _ _ h _ := ⟨_, rfl, hS⟩
   refine wp_loopx (γ := Bool × Int) (true, 0) (fun (gg : Bool × Int) => match gg with | (cl, i) => [(8, .bool cl), (9, vi i)]) [(0, _), (2, _), (3, _), (4, _), (6, _), (7, _)] (fun (gg : Bool × Int) => match gg with | (cl, i) => hs0) (fun (gg : Bool × Int) => match gg with | (cl, i) => 0 ≤ i ∧ i ≤ N ∧ (e = 0 → cl = true) ∧ cl = Hu.clA (Hu.famG l) e i.toNat) (fun (gg : Bool × Int) => match gg with | (cl, i) => (N - i).toNat) (hF.sub ⟨rfl, rfl, rfl, rfl, rfl, rfl, rfl, rfl, trivial⟩) (by subst hhs0; exact hS) (by exact ⟨Int.le_refl _, by omega, fun _ => rfl, rfl⟩) ?_
   clear hF hS; rintro ⟨cl, i⟩ a w hfact hF hS
   subst hhs0; (try dsimp only at hfact); (try dsimp only at hF); (try dsimp only at hS)
   obtain ⟨hi0, hi1, hcl0, hclq⟩ := hfact
   replace hS : St _ [] [_, _, _, _] _ := hS
   have hpi := pw_le (x := i) (by omega)
   refine wp_seq_k ?_; intro K18 hK18
   refine wp_seq_k ?_; intro K19 hK19
   refine reg hF hS (sq rfl (q_move rfl) <|
     sq rfl (q_move rfl) <|
     sq rfl (q_lti rfl rfl) <|
     sq_end) ?_
   clear hF hS; intro a w hF hS
   refine hK19 _ _ ?_
   clear hK19
   refine wp_ifd hF rfl (fun hc3 => ?_) (fun hc3 => ?_)
   ·refine wp_skip ?_
    refine hK18 _ _ ?_
    clear hK18
    refine wp_seq_k ?_; intro K20 hK20
    refine wp_block ?_
    refine wp_seq_k ?_; intro K21 hK21
    refine reg hF hS (sq rfl (q_move rfl) <|
      sq rfl (q_move rfl) <|
      sq rfl (q_addi rfl rfl (by omega)) <|
      sq rfl (q_move rfl) <|
      sq rfl (q_cv_iq ty3 ty72 rfl) <|
      sq rfl (q_shli rfl rfl (by omega) (by omega)) <|
      sq rfl (q_call fn21 rfl (fun w hS => at_ct _ _ _ _ (by omega) w (Sl.mono (hS.le zin0) hb)) (fun _ _ _ h => h)) <|
      sq rfl (q_assign rfl) <|
      sq_end) ?_
    clear hF hS; intro a w hF hS
    refine hK21 _ _ ?_
    clear hK21
    refine regl ?_
    refine wpl_sq hF hS (sq rfl (q_move rfl) <|
      sq rfl (q_move rfl) <|
      sq_end) ?_
    clear hF hS; intro a w hF hS
    refine wpl_andG (q := (!Gu.bitB e i || Gu.wi (Gu.atN l (1 + i) (1 * 2 ^ (min ((ofq i).toNat : Int).toNat 64) : Int)) e)) 49 9 hF hS rfl (by rfl) rfl (fun _ => sq_skip 49 rfl rfl rfl rfl <|
      sq_skip 49 rfl rfl rfl rfl <|
      sq_skip 49 rfl rfl rfl rfl <|
      sq_skip 49 rfl rfl rfl rfl <|
      sq_skip 49 rfl rfl rfl rfl <|
      sq_skipu 54 rfl rfl rfl <|
      sq_skipu 54 rfl rfl rfl <|
      sq_skipu 54 rfl rfl rfl <|
      sq_skip 49 rfl rfl rfl rfl <|
      sq_end) rfl (fun hg a w hF hS KG => ?_) ?_
    ·have hg := hg
     refine wpl_sq hF hS (sq_go 49 rfl rfl rfl (q_move rfl) <|
       sq_go 49 rfl rfl rfl (q_move rfl) <|
       sq_go 49 rfl rfl rfl (q_call fn47 rfl (fun w hS => bit_ct _ _ (by omega) w ) (fun _ _ _ h => h)) <|
       sq_go 49 rfl rfl rfl (q_not rfl) <|
       sq_go 49 rfl rfl rfl (q_move rfl) <|
       sq_end) ?_
     clear hF hS; intro a w hF hS
     refine wpl_orP 6 54 3 1 49 hF hS rfl rfl rfl rfl rfl rfl rfl (fun hg2 => have hg2 := hg2; sq_go 54 rfl rfl rfl (q_move rfl) <|
       sq_go 54 rfl rfl rfl (q_move rfl) <|
       sq_go 54 rfl rfl rfl (q_call fn48 rfl (fun w hS => in_ct _ _ w ) (fun _ _ _ h => h)) <|
       sq_end) rfl rfl ?_
     clear hF hS; intro a w hF hS
     refine wpl_sq hF hS (sq rfl (q_pick_t rfl rfl) <|
       sq_end) ?_
     clear hF hS; intro a w hF hS
     exact KG _ _ (hF.under 6 rfl rfl) hS
    clear hF hS; intro a w hF hS
    refine wpl_sq hF hS (sq rfl (q_assign rfl) <|
      sq_end) ?_
    clear hF hS; intro a w hF hS
    refine wpList_nil ?_
    refine hK20 _ _ ?_
    clear hK20
    refine reg hF hS (sq rfl (q_move rfl) <|
      sq rfl (q_addi rfl rfl (by omega)) <|
      sq rfl (q_assign rfl) <|
      sq_end) ?_
    clear hF hS; intro a w hF hS
    refine ⟨(_, i + 1), ?_, ?_, hF.sub ⟨rfl, rfl, rfl, rfl, rfl, rfl, rfl, rfl, trivial⟩, ?_⟩
    ·(try dsimp only); omega
    ·refine ⟨by omega, by omega, fun h => ?_, ?_⟩
     ·rw [hcl0 h, h, Gp.bit0]; rfl
     ·rw [show (i + 1).toNat = i.toNat + 1 by omega, Hu.clA_succ, ← hclq, show ((i.toNat : Nat) : Int) = i by omega]; rfl
    ·exact hS
   ·have hcle0 : Hu.clB (Hu.famG l) N.toNat e = cl := by rw [hclq, show i = N by omega]; rfl
    refine wp_exit ?_
    refine hK16 _ _ ?_
    clear hK16
    refine wp_seq_k ?_; intro K22 hK22
    refine reg hF hS (sq rfl (q_move rfl) <|
      sq_end) ?_
    clear hF hS; intro a w hF hS
    refine hK22 _ _ ?_
    clear hK22
    refine wp_if hF rfl (fun hc4 => ?_) (fun hc4 => ?_)
    ·refine regl ?_
     refine wpl_sq hF hS (sq rfl (q_move rfl) <|
       sq rfl (q_move rfl) <|
       sq_end) ?_
     clear hF hS; intro a w hF hS
     refine wpl_ef hF hS rfl (ef_bsliceA ty22 ty3 rfl rfl oQ (by decide) rfl rfl) ?_
     clear hF hS; rintro v8 _ _ a w ⟨rfl, rfl⟩ hF hS
     replace hS : St _ [] [_, _, _, _, _] _ := hS
     refine wpl_ef hF hS rfl (ef_append ty22 ty3 1 rfl rfl rfl (src_row ty22 (k := 0) rfl oQ) bQ rfl (by decide)) ?_
     clear hF hS; rintro v10 _ _ a w ⟨rfl, rfl⟩ hF hS
     replace hS : St _ [] [_, _, _, _, _] _ := hS
     refine wpl_sq hF hS (sq rfl (q_assign rfl) <|
       sq_end) ?_
     clear hF hS; intro a w hF hS
     refine wpList_nil ?_
     refine hK14 _ _ ?_
     clear hK14
     refine reg hF hS (sq rfl (q_move rfl) <|
       sq rfl (q_addi rfl rfl (by omega)) <|
       sq rfl (q_assign rfl) <|
       sq_end) ?_
     clear hF hS; intro a w hF hS
     replace hS := hS.keep zQ (sQ.n)
     refine ⟨(v10, ys ++ [e], e + 1), ?_, ?_, hF.sub ⟨rfl, rfl, rfl, rfl, rfl, rfl, trivial⟩, ?_⟩
     ·(try dsimp only); omega
     ·refine ⟨by omega, by omega, by simp; omega, fun y hy => ?_, ?_, fun _ => by simp, Hu.cl_snoc he0 hyi (hcle0.trans hc4)⟩
      ·rcases List.mem_append.1 hy with hy | hy
       ·have := hym y hy; omega
       ·obtain rfl := List.mem_singleton.1 hy; omega
      ·exact List.pairwise_append.2 ⟨hyp, List.pairwise_singleton _ _, fun a ha b hb9 => by rw [List.mem_singleton.1 hb9]; exact (hym a ha).2⟩
     ·dsimp only; rw [List.map_append, List.length_append]; exact hS
    ·refine wp_skip ?_
     refine hK14 _ _ ?_
     clear hK14
     refine reg hF hS (sq rfl (q_move rfl) <|
       sq rfl (q_addi rfl rfl (by omega)) <|
       sq rfl (q_assign rfl) <|
       sq_end) ?_
     clear hF hS; intro a w hF hS
     refine ⟨(u2, ys, e + 1), ?_, ?_, hF.sub ⟨rfl, rfl, rfl, rfl, rfl, rfl, trivial⟩, ?_⟩
     ·(try dsimp only); omega
     ·exact ⟨by omega, by omega, by omega, fun y hy => (by have := hym y hy; omega), hyp, fun _ => if h0 : e = 0 then absurd (hcl0 h0) (by rw [hc4]; decide) else hyn (by omega), Hu.cl_skip hyi (hcle0.trans hc4)⟩
     ·exact hS
  ·refine wp_exit ?_
   refine hK10 _ _ ?_
   clear hK10
   refine wp_seq_k ?_; intro K23 hK23
   refine regl ?_
   refine wpl_sq hF hS (sq rfl (q_move rfl) <|
     sq_end) ?_
   clear hF hS; intro a w hF hS
   refine wpl_ef hF hS rfl (ef_call fn49 rfl (fun w hS => sorted_ct _ _ (by first | with_reducible assumption | omega) w (own_slV (hS.own _ (List.mem_of_getElem? (i := 0) rfl)).1 (by first | assumption | (simp; done)) (by first | rfl | (simp; done) | (simp; omega) | omega) (by first | omega | (simp; omega))))) ?_
   clear hF hS; rintro v11 _ _ a w ⟨_, _, rfl, rfl, ⟨xs12, hxp13, hxo14, z15, hz16, rfl, rfl⟩⟩ hF hS
   replace hS : St _ [_] [_, _, _, _] _ := hS
   refine wpl_sq hF hS (sq rfl (q_fieldAddr ty26 rfl rfl (s' := 0) kQ) <|
     sq_end) ?_
   clear hF hS; intro a w hF hS
   refine wpl_ef hF hS rfl (ef_store1 ty22 2 rfl rfl rfl (sl_one' hz16) (by simp)) ?_
   clear hF hS; rintro _ _ _ a w ⟨rfl, rfl, rfl⟩ hF hS
   replace hS : St _ [_] [_, _, .blk _ _ ([_, _, _].set 1 _), _] _ := hS
   simp only [List.set_cons_zero, List.set_cons_succ] at hS
   replace hS : St _ [_] [_, _, _, _] _ := hS
   refine wpList_nil ?_
   have hxl9 := List.Perm.length_eq hxp13
   have hfam : Gu.Fam xs12 := Gu.fam_of hxp13 hxo14 hyp (fun y hy => by have := hym y hy; omega)
   have hyi9 := hyi
   rw [show e = (1 * 2 ^ (min ((ofq N).toNat : Int).toNat 64) : Int) by omega] at hyi9
   have hstp := Hu.fam_stp (l := l) (N := N) (by omega) hxp13 hyi9
   refine hK23 _ _ ?_
   clear hK23
   refine wp_seq_k ?_; intro K24 hK24
   refine wp_seq_k ?_; intro K25 hK25
   refine reg hF hS (sq rfl (q_assign rfl) <|
     sq_end) ?_
   clear hF hS; intro a w hF hS
   replace hS := hS.nilRow 4 1
   replace hS : St _ [_] [_, _, _, _, _] _ := hS
   refine hK25 _ _ ?_
   clear hK25
   refine wp_block ?_
   obtain ⟨hs0, hhs0, hS⟩ : ∃ h, h = _ ∧ St _ _ h _ := ⟨_, rfl, hS⟩
   refine wp_loopx (γ := Value × List Bool × Int) ((Value.slice none 0 0), [], 0) (fun (gg : Value × List Bool × Int) => match gg with | (u3, bl, i) => [(11, vi i)]) [(0, _), (2, _), (4, _)] (fun (gg : Value × List Bool × Int) => match gg with | (u3, bl, i) => ((hs0.set 3 (.blk b2 26 [u, v11, u3])).set 0 (.row u3 4 1 bl.length (bl.map vt)))) (fun (gg : Value × List Bool × Int) => match gg with | (u3, bl, i) => 0 ≤ i ∧ i ≤ 32 ∧ i ≤ xs12.length ∧ (bl.length : Int) = i) (fun (gg : Value × List Bool × Int) => match gg with | (u3, bl, i) => (40 - i).toNat) (hF.sub ⟨rfl, rfl, rfl, rfl, trivial⟩) (by subst hhs0; exact hS) (by exact ⟨Int.le_refl _, by omega, by omega, rfl⟩) ?_
   clear hF hS; rintro ⟨u3, bl, i⟩ a w hfact hF hS
   subst hhs0; (try dsimp only at hfact); (try dsimp only at hF); (try dsimp only at hS)
   obtain ⟨hi0, hi1, hi2, hbl2⟩ := hfact
   replace hS : St _ [_] [_, _, _, _, _] _ := hS
   refine wp_seq_k ?_; intro K26 hK26
   refine wp_seq_k ?_; intro K27 hK27
   refine reg hF hS (sq rfl (q_move rfl) <|
     sq rfl (q_fieldAddr ty26 rfl rfl (s' := 0) kQ) <|
     sq rfl (q_ld_blk1 ty22 3 rfl rfl rfl rfl) <|
     sq rfl (q_len_sl ty22 hz16 rfl) <|
     sq rfl (q_lti rfl rfl) <|
     sq_end) ?_
   clear hF hS; intro a w hF hS
   refine hK27 _ _ ?_
   clear hK27
   refine wp_ifd hF rfl (fun hc5 => ?_) (fun hc5 => ?_)
   ·refine wp_skip ?_
    refine hK26 _ _ ?_
    clear hK26
    refine wp_seq_k ?_; intro K28 hK28
    refine wp_block ?_
    revert hS; revert hF; apply regJ (J := J2 (α0 := Value) (α1 := Value) 86 _ _ _ _ _) #[false, false, false, false, false, false, false, false, false, false, false] 11 mixed rfl rfl
    ·intro w hF hS
     refine goW_take 0 _ rfl kQ rfl hF (hS.keep sQ zQ) (q_fieldAddr ty26 rfl rfl (s' := 0) kQ) ?_
     clear hF; intro a hF
     refine goW_take 1 _ rfl kQ rfl hF (hS.keep sQ (zQ.k.n.n.n)) (q_ld_blk1 ty24 0 rfl rfl rfl rfl) ?_
     clear hF; intro a hF
     refine goW_take 2 _ rfl kQ rfl hF (hS.keep sQ zQ) (q_move rfl) ?_
     clear hF; intro a hF
     refine goW_take 3 _ rfl kQ rfl hF (hS.keep sQ zQ) (q_move rfl) ?_
     clear hF; intro a hF
     refine goW_take 4 _ rfl kQ rfl hF (hS.keep sQ zQ) (q_addi rfl rfl (by omega)) ?_
     clear hF; intro a hF
     refine gQ 5 rfl rfl hF hS rfl (ef_qt (q_call fn21 rfl (fun w hS => at_ct _ _ _ _ (by omega) w (Sl.mono (hS.le zin0) hb)) (fun _ _ _ h => h))) ?_
     clear hF hS; rintro _ _ _ a w ⟨rfl, rfl, rfl⟩ hF hS
     refine ⟨⟨iQ, iQ, iQ, .inr (hS.keep sQ (zQ.k.n.n.n)), .inr (hS.keep sQ zQ), trivial⟩, ?_⟩
     refine goW_take 6 _ rfl kQ rfl hF (hS.keep sQ zQ) (q_gti rfl rfl) ?_
     clear hF; intro a hF
     refine gQ 7 rfl rfl hF hS rfl (ef_bsliceA ty24 ty4 rfl rfl oQ (by decide) rfl rfl) ?_
     clear hF hS; rintro v_23_7 _ _ a w ⟨rfl, rfl⟩ hF hS
     refine ⟨⟨iQ, iQ, iQ, iQ, .inr (hS.keep sQ (zQ.k.n.n.n.n)), .inr (hS.keep sQ zQ), trivial⟩, ?_⟩
     refine gQ 8 rfl rfl hF hS rfl (ef_append ty24 ty4 1 rfl rfl rfl (src_row ty24 (k := 0) rfl oQ) bQ rfl (by decide)) ?_
     clear hF hS; rintro v_23_8 _ _ a w ⟨rfl, rfl⟩ hF hS
     refine ⟨⟨iQ, iQ, iQ, iQ, iQ, iQ, trivial⟩, ?_⟩
     refine goW_take 9 _ rfl kQ rfl hF (hS.keep sQ zQ) (q_fieldAddr ty26 rfl rfl (s' := 0) kQ) ?_
     clear hF; intro a hF
     refine gQ 10 rfl rfl hF hS rfl (ef_store1 ty24 4 rfl rfl rfl (row_one (hS.own _ (List.mem_of_getElem? (i := 1) rfl)).1) (by simp)) ?_
     clear hF hS; rintro _ _ _ a w ⟨rfl, rfl, rfl⟩ hF hS
     replace hS : St _ [_] [_, _, _, _, .blk _ _ ([_, _, _].set 2 _), _] _ := hS
     simp only [List.set_cons_zero, List.set_cons_succ] at hS
     replace hS : St _ [_] [_, _, _, _, _, _] _ := hS
     refine ⟨⟨iQ, iQ, iQ, iQ, iQ, iQ, iQ, trivial⟩, ?_⟩
     exact goW_done kQ (j2_mk v_23_7 v_23_8 (trivial) (hF.sub (L' := [(0, _), (2, _), (4, _), (11, _)]) ⟨rfl, rfl, rfl, rfl, trivial⟩) hS)
    rintro a w ⟨v_23_7, v_23_8, -, hF, hS⟩
    (try dsimp only at hF); (try dsimp only at hS)
    refine hK28 _ _ ?_
    clear hK28
    refine reg hF hS (sq rfl (q_move rfl) <|
      sq rfl (q_addi rfl rfl (by omega)) <|
      sq rfl (q_assign rfl) <|
      sq_end) ?_
    clear hF hS; intro a w hF hS
    replace hS := hS.keep sQ (sQ.n)
    refine ⟨(v_23_8, bl ++ [decide (0 < Gu.atN l (6 + i) 6)], i + 1), ?_, ?_, hF.sub ⟨rfl, rfl, rfl, rfl, trivial⟩, ?_⟩
    ·(try dsimp only); omega
    ·refine ⟨by omega, by omega, by omega, by simp; omega⟩
    ·dsimp only; rw [List.map_append, List.length_append]; exact hS
   ·refine wp_exit ?_
    refine hK24 _ _ ?_
    clear hK24
    refine wp_seq_k ?_; intro K29 hK29
    refine regl ?_
    refine wpl_sq hF hS (sq rfl (q_ld_blkW ty26 3 rfl rfl bQ rfl) <|
      sq_end) ?_
    clear hF hS; intro a w hF hS
    refine wpl_ef hF hS rfl (ef_storeW ty26 4 rfl rfl rfl rfl bQ (oc_cons (row_one (hS.own _ (List.mem_of_getElem? (i := 2) rfl)).1) (oc_cons (sl_one' hz16) (oc_cons (row_one (hS.own _ (List.mem_of_getElem? (i := 0) rfl)).1) oc_nil))) bQ) ?_
    clear hF hS; rintro _ _ _ a w ⟨rfl, rfl, rfl⟩ hF hS
    replace hS : St _ [_] [_, _, _, _, _] _ := hS
    refine wpList_nil ?_
    refine hK29 _ _ ?_
    clear hK29
    refine wp_ret ?_
    replace hS := hS.perm (.cons _ (.swap _ _ _))
    replace hS := hS.perm (.swap _ _ _)
    obtain ⟨zn, hzn, hS⟩ := hS.freezeC rfl (by omega) hnm
    obtain ⟨zu, hzu, hS⟩ := hS.union
    exact fn_ret (rs := [.cell 2 26]) rfl hF hS (vs := [_]) ⟨⟨_, _, _, _, _, _, _, rfl, List.mem_of_getElem? (i := 3) rfl, ty26, .inl ⟨rfl, bQ, rfl⟩⟩, trivial⟩ (zs' := [zu]) (hs' := [_]) (List.singleton_sublist.2 (by simp)) (zQ.k) ⟨_, _, _, ns, _, bl, zu, rfl, hzn.mono (hzu _ (by simp)), Sl.mono (hzu _ (by simp)) hz16, ⟨by omega, by omega, by omega, hfam, by rw [show ns.length = N.toNat by omega]; exact hstp⟩, rfl, rfl⟩

set_option maxRecDepth 4000 in
set_option maxHeartbeats 2000000 in
theorem keys2_ct (xN xS xB : Value) (xs : List Int) (xb : List Bool) (v : Value) (m : List Int) (hl : xs.length < 1048576) (w : World) (hxn : xN.oneCell' = true) (hxs : Sl encI (ph w) xS xs) (hxb : Sl encT (ph w) xB xb) (hm : Sl encI (ph w) v m) : Ct Try.prog 11 [.agg [xN, xS, xB].toArray, v] w (fun v zs hs => zs = [] ∧ hs = [.row v 66 16 xs.length ((Hu.kyl m xs.length).flatten.map vb)]) := by
 refine fn_enter Try.func11 rfl Try.ntmps11 (Nat.le_of_ble_eq_true rfl) fun a hF hS => ?_
 have hsl := hxs.1
 have hml := hm.1
 refine wp_seq_k ?_; intro K1 hK1
 refine regl ?_
 refine wpl_ef hF hS rfl (ef_boxA rfl) ?_
 clear hF hS; rintro _ _ _ a w ⟨b1, rfl, rfl, rfl⟩ hF hS
 refine wpl_sq hF hS (sq rfl (q_assign rfl) <|
   sq_end) ?_
 clear hF hS; intro a w hF hS
 refine wpList_nil ?_
 refine hK1 _ _ ?_
 clear hK1
 refine wp_seq_k ?_; intro K2 hK2
 refine reg hF hS (sq rfl (q_assign rfl) <|
   sq_end) ?_
 clear hF hS; intro a w hF hS
 replace hS := hS.nilRow 66 16
 refine hK2 _ _ ?_
 clear hK2
 refine wp_seq_k ?_; intro K3 hK3
 refine wp_seq_k ?_; intro K4 hK4
 refine reg hF hS (sq rfl (q_assign rfl) <|
   sq_end) ?_
 clear hF hS; intro a w hF hS
 refine hK4 _ _ ?_
 clear hK4
 refine wp_block ?_
 obtain ⟨hs0, hhs0, hS⟩ : ∃ h, h = _ ∧ St _ _ h _ := ⟨_, rfl, hS⟩
 refine wp_loopx (γ := Value × Int) ((Value.slice none 0 0), 0) (fun (gg : Value × Int) => match gg with | (u, i) => [(5, u), (6, vi i)]) [(1, _), (2, _)] (fun (gg : Value × Int) => match gg with | (u, i) => (hs0.set 0 (.row u 66 16 i.toNat ((Hu.kyl m i.toNat).flatten.map vb)))) (fun (gg : Value × Int) => match gg with | (u, i) => 0 ≤ i ∧ i ≤ xs.length) (fun (gg : Value × Int) => match gg with | (u, i) => (xs.length - i).toNat) (hF.sub ⟨rfl, rfl, rfl, rfl, trivial⟩) (by subst hhs0; exact hS) (by exact ⟨Int.le_refl _, by omega⟩) ?_
 clear hF hS; rintro ⟨u, i⟩ a w hfact hF hS
 subst hhs0; (try dsimp only at hfact); (try dsimp only at hF); (try dsimp only at hS)
 obtain ⟨hi0, hi1⟩ := hfact
 replace hS : St _ [] [_, _] _ := hS
 have hk16y := Hu.kyl_16 m i.toNat
 have hat := Gu.atN_range (l := m) (i := i) (m := 16) (by decide)
 have hdg := Hu.dgI_16 i
 refine wp_seq_k ?_; intro K5 hK5
 refine wp_seq_k ?_; intro K6 hK6
 refine reg hF hS (sq rfl (q_move rfl) <|
   sq rfl (q_fieldAddr ty26 rfl rfl (s' := 0) kQ) <|
   sq rfl (q_ld_blk1 ty22 1 rfl rfl rfl rfl) <|
   sq rfl (q_len_sl ty22 hxs rfl) <|
   sq rfl (q_lti rfl rfl) <|
   sq_end) ?_
 clear hF hS; intro a w hF hS
 refine hK6 _ _ ?_
 clear hK6
 refine wp_ifd hF rfl (fun hc1 => ?_) (fun hc1 => ?_)
 ·refine wp_skip ?_
  refine hK5 _ _ ?_
  clear hK5
  refine wp_seq_k ?_; intro K7 hK7
  refine wp_block ?_
  refine wp_seq_k ?_; intro K8 hK8
  refine regl ?_
  refine wpl_sq hF hS (sq rfl (q_move rfl) <|
    sq rfl (q_addi rfl rfl (by omega)) <|
    sq rfl (q_cv_ib ty3 ty5 rfl) <|
    sq rfl (q_build rfl (run_build_arr ty66 ty5 (cells := (Hu.dgI i).map vb) rfl)) <|
    sq_end) ?_
  clear hF hS; intro a w hF hS
  refine wpl_ef hF hS rfl (ef_allocA ty66) ?_
  clear hF hS; rintro _ _ _ a w ⟨b3, rfl, rfl, rfl⟩ hF hS
  rw [show List.replicate 16 (Value.int .u8 0) = (List.replicate 16 (0 : UInt8)).map vb from by rw [List.map_replicate]; rfl] at hS
  refine wpl_ef hF hS rfl (ef_storeW ty66 0 rfl rfl rfl rfl bQ oQ bQ) ?_
  clear hF hS; rintro _ _ _ a w ⟨rfl, rfl, rfl⟩ hF hS
  replace hS : St _ [] [_, _, _] _ := hS
  refine wpList_nil ?_
  refine hK8 _ _ ?_
  clear hK8
  refine wp_seq_k ?_; intro K9 hK9
  refine reg hF hS (sq rfl (q_move rfl) <|
    sq rfl (q_move rfl) <|
    sq rfl (q_call fn21 rfl (fun w hS => at_ct _ _ _ _ (by omega) w (Sl.mono (hS.le zin0) hm)) (fun _ _ _ h => h)) <|
    sq rfl (q_assign rfl) <|
    sq_end) ?_
  clear hF hS; intro a w hF hS
  refine hK9 _ _ ?_
  clear hK9
  obtain ⟨hs0, hhs0, hS⟩ : ∃ h, h = _ ∧ St _ _ h _ := ⟨_, rfl, hS⟩
  refine wp_cutx (γ := List UInt8) (fun (d : List UInt8) => []) [(1, _), (2, _), (5, _), (6, _), (7, _)] (fun (d : List UInt8) => (hs0.set 0 (.blk b3 66 (d.map vb)))) (fun (d : List UInt8) => Hu.kyl m (i + 1).toNat = Hu.kyl m i.toNat ++ [d] ∧ d.length = 16) (hF.sub ⟨rfl, rfl, rfl, rfl, rfl, trivial⟩) hS ?_ ?_
  ·subst hhs0
   refine wp_seq_k ?_; intro K10 hK10
   refine regl ?_
   refine wpl_sq hF hS (sq rfl (q_move rfl) <|
     sq rfl (q_move rfl) <|
     sq rfl (q_lti rfl rfl) <|
     sq rfl (q_move rfl) <|
     sq_end) ?_
   clear hF hS; intro a w hF hS
   refine wpl_and 3 26 2 hF hS rfl rfl rfl rfl rfl (fun hg => have hg := (by first | exact of_decide_eq_true hg | exact hg); sq_go 26 rfl rfl rfl (q_move rfl) <|
     sq_go 26 rfl rfl rfl (q_lti rfl rfl) <|
     sq_end) rfl rfl ?_
   clear hF hS; intro a w hF hS
   refine wpList_nil ?_
   refine hK10 _ _ ?_
   clear hK10
   refine wp_if hF rfl (fun hc2 => ?_) (fun hc2 => ?_)
   ·(try simp only [Bool.or_eq_true, Bool.and_eq_true, Bool.or_eq_false_iff, Bool.and_eq_false_iff, decide_eq_true_eq, decide_eq_false_iff_not, Bool.not_eq_true', Bool.not_eq_false'] at hc2)
    have hg16 : ((Hu.kyl m i.toNat).getD (Gu.atN m i 16).toNat []).length = 16 := hk16y _ (by rw [List.getD_eq_getElem?_getD, List.getElem?_eq_getElem (by rw [Hu.kyl_len]; omega)]; exact List.getElem_mem _)
    refine regl ?_
    refine wpl_sq hF hS (sq rfl (q_move rfl) <|
      sq rfl (q_move rfl) <|
      sq rfl (q_idx_row ty28 ty66 1 rfl rfl rfl (by omega)) <|
      sq rfl (q_ld_rowA ty66 1 rfl hk16y rfl (by rw [Hu.kyl_len]; omega) (by decide) rfl) <|
      sq_end) ?_
    clear hF hS; intro a w hF hS
    refine wpl_ef hF hS rfl (ef_storeW ty66 0 rfl rfl rfl rfl bQ oQ bQ) ?_
    clear hF hS; rintro _ _ _ a w ⟨rfl, rfl, rfl⟩ hF hS
    replace hS : St _ [] [_, _, _] _ := hS
    refine wpList_nil ?_
    refine ⟨(((Hu.kyl m i.toNat).getD (Gu.atN m i 16).toNat [])), ?_, hF.sub ⟨rfl, rfl, rfl, rfl, rfl, trivial⟩, ?_⟩
    ·exact ⟨Hu.kyl_t hi0 hc2, hk16y _ (by rw [List.getD_eq_getElem?_getD, List.getElem?_eq_getElem (by rw [Hu.kyl_len]; omega)]; exact List.getElem_mem _)⟩
    ·exact hS
   ·(try simp only [Bool.or_eq_true, Bool.and_eq_true, Bool.or_eq_false_iff, Bool.and_eq_false_iff, decide_eq_true_eq, decide_eq_false_iff_not, Bool.not_eq_true', Bool.not_eq_false'] at hc2)
    refine wp_skip ?_
    refine ⟨((Hu.dgI i)), ?_, hF.sub ⟨rfl, rfl, rfl, rfl, rfl, trivial⟩, ?_⟩
    ·exact ⟨Hu.kyl_f hi0 (by omega), Hu.dgI_16 i⟩
    ·exact hS
  clear hF hS; rintro d a w hfact hF hS
  subst hhs0; (try dsimp only at hfact); (try dsimp only at hF); (try dsimp only at hS)
  obtain ⟨hd9, hd16⟩ := hfact
  replace hS : St _ [] [_, _, _] _ := hS
  refine regl ?_
  refine wpl_sq hF hS (sq rfl (q_move rfl) <|
    sq rfl (q_ld_blkW ty66 0 rfl rfl bQ rfl) <|
    sq_end) ?_
  clear hF hS; intro a w hF hS
  refine wpl_ef hF hS rfl (ef_bsliceW ty28 ty66 rfl bQ (by decide) oQ (by decide) (by decide)) ?_
  clear hF hS; rintro v4 _ _ a w ⟨rfl, rfl⟩ hF hS
  replace hS : St _ [] [_, _, _, _] _ := hS
  refine wpl_ef hF hS rfl (ef_append ty28 ty66 2 rfl rfl rfl (src_row ty28 (k := 0) rfl oQ) bQ rfl (by decide)) ?_
  clear hF hS; rintro v6 _ _ a w ⟨rfl, rfl⟩ hF hS
  replace hS : St _ [] [_, _, _, _] _ := hS
  refine wpl_sq hF hS (sq rfl (q_assign rfl) <|
    sq_end) ?_
  clear hF hS; intro a w hF hS
  refine wpList_nil ?_
  refine hK7 _ _ ?_
  clear hK7
  refine reg hF hS (sq rfl (q_move rfl) <|
    sq rfl (q_addi rfl rfl (by omega)) <|
    sq rfl (q_assign rfl) <|
    sq_end) ?_
  clear hF hS; intro a w hF hS
  replace hS := hS.keep zQ (sQ.n.n)
  refine ⟨(v6, i + 1), ?_, ?_, hF.sub ⟨rfl, rfl, rfl, rfl, trivial⟩, ?_⟩
  ·(try dsimp only); omega
  ·(try dsimp only); omega
  ·exact hS.rowEq (by omega) (by rw [hd9, List.flatten_append, List.map_append]; simp)
 ·obtain rfl : i = xs.length := by omega
  rw [Int.toNat_natCast] at hS
  refine wp_exit ?_
  refine hK3 _ _ ?_
  clear hK3
  refine wp_seq_k ?_; intro K11 hK11
  refine reg hF hS (sq rfl (q_move rfl) <|
    sq rfl (q_assign rfl) <|
    sq_end) ?_
  clear hF hS; intro a w hF hS
  refine hK11 _ _ ?_
  clear hK11
  refine wp_ret ?_
  exact fn_ret (rs := [.tmp 4]) rfl hF hS (vs := [_]) ⟨rfl, trivial⟩ (zs' := []) (hs' := [_]) zQ (zQ.k) ⟨rfl, rfl⟩

set_option maxRecDepth 4000 in
set_option maxHeartbeats 2000000 in
theorem truth2_ct (kV : Value) (ks : List (List UInt8)) (v : Value) (l : List Int) (hl : ks.length < 1048576) (w : World) (hk : Sl (encA 16) (ph w) kV ks) (hm : Sl encI (ph w) v l) : Ct Try.prog 13 [kV, v] w (fun v zs hs => zs = [] ∧ hs = [.row v 4 1 (Hu.tru l ks ks.length).length ((Hu.tru l ks ks.length).map vt)]) := by
 refine fn_enter Try.func13 rfl Try.ntmps13 (Nat.le_of_ble_eq_true rfl) fun a hF hS => ?_
 have hkl := hk.1
 have hml := hm.1
 have hk16 : ∀ j, j < ks.length → (ks.getD j []).length = 16 := fun j hj => by have := hk.rep (i := j) (x := ks[j]) (by simp [hj]); rw [List.getD_eq_getElem?_getD, List.getElem?_eq_getElem hj]; exact this.1
 refine wp_seq_k ?_; intro K1 hK1
 refine reg hF hS (sq rfl (q_assign rfl) <|
   sq_end) ?_
 clear hF hS; intro a w hF hS
 refine hK1 _ _ ?_
 clear hK1
 refine wp_seq_k ?_; intro K2 hK2
 refine reg hF hS (sq rfl (q_assign rfl) <|
   sq_end) ?_
 clear hF hS; intro a w hF hS
 replace hS := hS.nilRow 4 1
 refine hK2 _ _ ?_
 clear hK2
 refine wp_seq_k ?_; intro K3 hK3
 refine wp_seq_k ?_; intro K4 hK4
 refine reg hF hS (sq rfl (q_assign rfl) <|
   sq_end) ?_
 clear hF hS; intro a w hF hS
 refine hK4 _ _ ?_
 clear hK4
 refine wp_block ?_
 obtain ⟨hs0, hhs0, hS⟩ : ∃ h, h = _ ∧ St _ _ h _ := ⟨_, rfl, hS⟩
 refine wp_loopx (γ := Value × Int) ((Value.slice none 0 0), 0) (fun (gg : Value × Int) => match gg with | (u, i) => [(5, u), (6, vi i)]) [(0, _), (1, _)] (fun (gg : Value × Int) => match gg with | (u, i) => (hs0.set 0 (.row u 4 1 i.toNat ((Hu.tru l ks i.toNat).map vt)))) (fun (gg : Value × Int) => match gg with | (u, i) => 0 ≤ i ∧ i ≤ ks.length) (fun (gg : Value × Int) => match gg with | (u, i) => (ks.length - i).toNat) (hF.sub ⟨rfl, rfl, rfl, rfl, trivial⟩) (by subst hhs0; exact hS) (by exact ⟨Int.le_refl _, by omega⟩) ?_
 clear hF hS; rintro ⟨u, i⟩ a w hfact hF hS
 subst hhs0; (try dsimp only at hfact); (try dsimp only at hF); (try dsimp only at hS)
 obtain ⟨hi0, hi1⟩ := hfact
 replace hS : St _ [] [_] _ := hS
 refine wp_seq_k ?_; intro K5 hK5
 refine wp_seq_k ?_; intro K6 hK6
 refine reg hF hS (sq rfl (q_move rfl) <|
   sq rfl (q_move rfl) <|
   sq rfl (q_len_sl ty28 hk rfl) <|
   sq rfl (q_lti rfl rfl) <|
   sq_end) ?_
 clear hF hS; intro a w hF hS
 refine hK6 _ _ ?_
 clear hK6
 refine wp_ifd hF rfl (fun hc1 => ?_) (fun hc1 => ?_)
 ·have hki := hk16 i.toNat (by omega)
  refine wp_skip ?_
  refine hK5 _ _ ?_
  clear hK5
  refine wp_seq_k ?_; intro K7 hK7
  refine wp_block ?_
  refine regl ?_
  refine wpl_sq hF hS (sq rfl (q_move rfl) <|
    sq rfl (q_move rfl) <|
    sq rfl (q_move rfl) <|
    sq rfl (q_move rfl) <|
    sq rfl (q_idx_sl ty28 ty66 hk rfl rfl (by omega)) <|
    sq rfl (q_idx_AB ty66 ty5 hk rfl rfl (by omega) (by omega)) <|
    sq rfl (q_ld_AB1 ty5 hk zin0 rfl rfl (by omega) (by omega)) <|
    sq rfl (q_cv_bi ty5 ty3 rfl) <|
    sq rfl (q_call fn21 rfl (fun w hS => at_ct _ _ _ _ (by omega) w (Sl.mono (hS.le zin0) hm)) (fun _ _ _ h => h)) <|
    sq rfl (q_eqi rfl rfl) <|
    sq_end) ?_
  clear hF hS; intro a w hF hS
  refine wpl_ef hF hS rfl (ef_bsliceA ty24 ty4 rfl rfl oQ (by decide) rfl rfl) ?_
  clear hF hS; rintro v2 _ _ a w ⟨rfl, rfl⟩ hF hS
  replace hS : St _ [] [_, _] _ := hS
  refine wpl_ef hF hS rfl (ef_append ty24 ty4 1 rfl rfl rfl (src_row ty24 (k := 0) rfl oQ) bQ rfl (by decide)) ?_
  clear hF hS; rintro v4 _ _ a w ⟨rfl, rfl⟩ hF hS
  replace hS : St _ [] [_, _] _ := hS
  refine wpl_sq hF hS (sq rfl (q_assign rfl) <|
    sq_end) ?_
  clear hF hS; intro a w hF hS
  refine wpList_nil ?_
  refine hK7 _ _ ?_
  clear hK7
  refine reg hF hS (sq rfl (q_move rfl) <|
    sq rfl (q_addi rfl rfl (by omega)) <|
    sq rfl (q_assign rfl) <|
    sq_end) ?_
  clear hF hS; intro a w hF hS
  replace hS := hS.keep zQ (sQ.n)
  refine ⟨(v4, i + 1), ?_, ?_, hF.sub ⟨rfl, rfl, rfl, rfl, trivial⟩, ?_⟩
  ·(try dsimp only); omega
  ·(try dsimp only); omega
  ·exact hS.rowEq (by omega) (by rw [show (i + 1).toNat = i.toNat + 1 by omega, Hu.tru_succ, List.map_append]; rfl)
 ·obtain rfl : i = ks.length := by omega
  rw [Int.toNat_natCast] at hS
  replace hS := hS.rowEq (Hu.tru_len l ks ks.length).symm rfl
  have hml9 := Hu.tru_len l ks ks.length
  refine wp_exit ?_
  refine hK3 _ _ ?_
  clear hK3
  refine wp_seq_k ?_; intro K8 hK8
  refine reg hF hS (sq rfl (q_move rfl) <|
    sq rfl (q_assign rfl) <|
    sq_end) ?_
  clear hF hS; intro a w hF hS
  refine hK8 _ _ ?_
  clear hK8
  refine wp_ret ?_
  exact fn_ret (rs := [.tmp 4]) rfl hF hS (vs := [_]) ⟨rfl, trivial⟩ (zs' := []) (hs' := [_]) zQ sQ ⟨rfl, rfl⟩
end Go.Proofs.Ytefjpigmgmbghaa
