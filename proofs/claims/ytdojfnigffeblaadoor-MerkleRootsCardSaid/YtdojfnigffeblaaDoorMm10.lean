/- A text of a proof over this seat: walks over the program's functions and the plain laws that they need. -/
import Derived.Test.YtdojfnigffeblaaDoorMm9
import Derived.Test.YtdojfnigffeblaaDoorMkA
import Derived.Test.YtdojfnigffeblaaDoorFwB
set_option linter.all false
namespace Go.Proofs.YtdojfnigffeblaaDoor
open Go.Fw
theorem ty23 : Tf Tryd.prog 23 (.slice 97) 1 24 (Value.slice none 0 0) := ⟨Tryd.underlying23, by kernel_rfl⟩
theorem ty97 : Tf Tryd.prog 97 (.array 2 9) 2 32 (.agg ([Value.string ⟨(List.nil : List UInt8).toArray⟩, Value.string ⟨(List.nil : List UInt8).toArray⟩]).toArray) := ⟨Tryd.underlying97, by kernel_rfl⟩
theorem fn21 : FnOk Tryd.prog 21 := ⟨_, Tryd.func21, rfl, by kernel_rfl⟩
theorem fn48 : FnOk Tryd.prog 48 := ⟨_, Tryd.func48, rfl, by kernel_rfl⟩
theorem fn49 : FnOk Tryd.prog 49 := ⟨_, Tryd.func49, rfl, by kernel_rfl⟩

attribute [local irreducible] Sha.sum Sha.mac Sha.ofD Wi.int Wi.ints Wi.bytes Sha.inp Mk.half Lib.compareBytes Mk.frm Mk.rootD Mk.keyB Gu.arnd Gu.atN

set_option maxRecDepth 4000 in
set_option maxHeartbeats 2000000 in
theorem short_ct (s : List UInt8) (m : Int) (n : Nat) (hm : m = n) (w : World) : Ct Tryd.prog 21 [vs s, vi m] w (fun r _ _ => r = vs (s.take n)) := by
 refine fn_enter Tryd.func21 rfl Tryd.ntmps21 (Nat.le_of_ble_eq_true rfl) fun a hF hS => ?_
 refine wp_seq_k ?_; intro K1 hK1
 refine reg hF hS (sq rfl (q_assign rfl) <|
   sq_end) ?_
 clear hF hS; intro a w hF hS
 refine hK1 _ _ ?_
 clear hK1
 refine wp_seq_k ?_; intro K2 hK2
 refine wp_seq_k ?_; intro K3 hK3
 refine reg hF hS (sq rfl (q_move rfl) <|
   sq rfl (q_len_s ty9 rfl) <|
   sq rfl (q_move rfl) <|
   sq rfl (q_gti rfl rfl) <|
   sq_end) ?_
 clear hF hS; intro a w hF hS
 refine hK3 _ _ ?_
 clear hK3
 refine wp_ifd hF rfl (fun hc1 => ?_) (fun hc1 => ?_)
 ·refine wp_seq_k ?_; intro K4 hK4
  refine reg hF hS (sq rfl (q_move rfl) <|
    sq rfl (q_move rfl) <|
    sq rfl (q_sl_s_hi ty9 rfl rfl (by omega)) <|
    sq rfl (q_assign rfl) <|
    sq_end) ?_
  clear hF hS; intro a w hF hS
  refine hK4 _ _ ?_
  clear hK4
  refine wp_ret ?_
  exact fn_ret (rs := [.tmp 4]) rfl hF hS (vs := [_]) ⟨rfl, trivial⟩ zQ zQ (by rw [show m.toNat = n by omega])
 ·refine wp_skip ?_
  refine hK2 _ _ ?_
  clear hK2
  refine wp_seq_k ?_; intro K5 hK5
  refine reg hF hS (sq rfl (q_move rfl) <|
    sq rfl (q_assign rfl) <|
    sq_end) ?_
  clear hF hS; intro a w hF hS
  refine hK5 _ _ ?_
  clear hK5
  refine wp_ret ?_
  exact fn_ret (rs := [.tmp 4]) rfl hF hS (vs := [_]) ⟨rfl, trivial⟩ zQ zQ (by rw [List.take_of_length_le (by omega)])

set_option maxRecDepth 4000 in
set_option maxHeartbeats 2000000 in
theorem keyB_ct (n : Int) (hn : 0 ≤ n ∧ n ≤ 1000000) (w : World) : Ct Tryd.prog 49 [vi n] w (fun r _ _ => r = vs (Mk.keyB n)) := by
 refine fn_enter Tryd.func49 rfl Tryd.ntmps49 (Nat.le_of_ble_eq_true rfl) fun a hF hS => ?_
 refine wp_seq_k ?_; intro K1 hK1
 refine reg hF hS (sq rfl (q_assign rfl) <|
   sq_end) ?_
 clear hF hS; intro a w hF hS
 refine hK1 _ _ ?_
 clear hK1
 refine wp_seq_k ?_; intro K2 hK2
 refine wp_seq_k ?_; intro K3 hK3
 refine reg hF hS (sq rfl (q_move rfl) <|
   sq rfl (q_remi rfl rfl (by omega)) <|
   sq rfl (q_eqi rfl rfl) <|
   sq_end) ?_
 clear hF hS; intro a w hF hS
 refine hK3 _ _ ?_
 clear hK3
 refine wp_ifd hF rfl (fun hc1 => ?_) (fun hc1 => ?_)
 ·refine wp_seq_k ?_; intro K4 hK4
  refine regl ?_
  refine wpl_sq hF hS (sq rfl (q_move rfl) <|
    sq rfl (q_quoi rfl rfl (by omega)) <|
    sq rfl (q_addi rfl rfl (by omega)) <|
    sq rfl (q_cv_ib ty3 ty5 rfl) <|
    sq_end) ?_
  clear hF hS; intro a w hF hS
  refine wpl_ef hF hS rfl (ef_bsliceA ty39 ty5 rfl rfl oQ (by decide) rfl rfl) ?_
  clear hF hS; rintro v1 _ _ a w ⟨rfl, rfl⟩ hF hS
  replace hS : St _ [] [_] _ := hS
  refine wpl_sq hF hS (sq rfl (q_b2s_row (xs := [ofb (97 + n / 3)]) ty39 ty9 ty5 0 rfl rfl) <|
    sq rfl (q_assign rfl) <|
    sq_end) ?_
  clear hF hS; intro a w hF hS
  refine wpList_nil ?_
  refine hK4 _ _ ?_
  clear hK4
  refine wp_ret ?_
  exact fn_ret (rs := [.tmp 2]) rfl hF hS (vs := [_]) ⟨rfl, trivial⟩ zQ zQ (by rw [Mk.keyB_1 hc1])
 ·refine wp_skip ?_
  refine hK2 _ _ ?_
  clear hK2
  refine wp_seq_k ?_; intro K5 hK5
  refine regl ?_
  refine wpl_sq hF hS (sq rfl (q_move rfl) <|
    sq rfl (q_quoi rfl rfl (by omega)) <|
    sq rfl (q_addi rfl rfl (by omega)) <|
    sq rfl (q_cv_ib ty3 ty5 rfl) <|
    sq rfl (q_move rfl) <|
    sq rfl (q_remi rfl rfl (by omega)) <|
    sq rfl (q_addi rfl rfl (by omega)) <|
    sq rfl (q_cv_ib ty3 ty5 rfl) <|
    sq_end) ?_
  clear hF hS; intro a w hF hS
  refine wpl_ef hF hS rfl (ef_bsliceA ty39 ty5 rfl rfl oQ (by decide) rfl rfl) ?_
  clear hF hS; rintro v3 _ _ a w ⟨rfl, rfl⟩ hF hS
  replace hS : St _ [] [_] _ := hS
  refine wpl_sq hF hS (sq rfl (q_b2s_row (xs := [ofb (97 + n / 3), ofb (97 + n % 3)]) ty39 ty9 ty5 0 rfl rfl) <|
    sq rfl (q_assign rfl) <|
    sq_end) ?_
  clear hF hS; intro a w hF hS
  refine wpList_nil ?_
  refine hK5 _ _ ?_
  clear hK5
  refine wp_ret ?_
  exact fn_ret (rs := [.tmp 2]) rfl hF hS (vs := [_]) ⟨rfl, trivial⟩ zQ zQ (by rw [Mk.keyB_2 hc1])

set_option maxRecDepth 4000 in
set_option maxHeartbeats 2000000 in
theorem leaves_ct (v : Value) (l : List Int) (w : World) (hb : Sl encI (ph w) v l) : Ct Tryd.prog 10 [v] w (SlR encF (Mk.leavesL l)) := by
 refine fn_enter Tryd.func10 rfl Tryd.ntmps10 (Nat.le_of_ble_eq_true rfl) fun a hF hS => ?_
 have hbl := hb.1
 have hvl : Mk.vals.length = 5 := rfl
 refine wp_seq_k ?_; intro K1 hK1
 refine reg hF hS (sq rfl (q_assign rfl) <|
   sq_end) ?_
 clear hF hS; intro a w hF hS
 refine hK1 _ _ ?_
 clear hK1
 refine wp_seq_k ?_; intro K2 hK2
 refine reg hF hS (sq rfl (q_assign rfl) <|
   sq_end) ?_
 clear hF hS; intro a w hF hS
 replace hS := hS.nilRow 75 2
 refine hK2 _ _ ?_
 clear hK2
 refine wp_seq_k ?_; intro K3 hK3
 refine reg hF hS (sq rfl (q_assign rfl) <|
   sq_end) ?_
 clear hF hS; intro a w hF hS
 refine hK3 _ _ ?_
 clear hK3
 refine wp_seq_k ?_; intro K4 hK4
 refine wp_seq_k ?_; intro K5 hK5
 refine reg hF hS (sq rfl (q_assign rfl) <|
   sq_end) ?_
 clear hF hS; intro a w hF hS
 refine hK5 _ _ ?_
 clear hK5
 refine wp_block ?_
 obtain ⟨hs0, hhs0, hS⟩ : ∃ h, h = _ ∧ St _ _ h _ := ⟨_, rfl, hS⟩
 refine wp_loopx (γ := Value × Int) ((Value.slice none 0 0), 0) (fun (gg : Value × Int) => match gg with | (u, i) => [(3, u), (4, vi (Mk.lvs l i.toNat).2), (5, vi i)]) [(0, _)] (fun (gg : Value × Int) => match gg with | (u, i) => (hs0.set 0 (.row u 75 2 (Mk.lvs l i.toNat).1.length ((Mk.lvs l i.toNat).1.flatMap kvC)))) (fun (gg : Value × Int) => match gg with | (u, i) => 0 ≤ i ∧ (i = 0 ∨ (2 * (i - 1) < l.length ∧ i ≤ 11))) (fun (gg : Value × Int) => match gg with | (u, i) => (11 - i).toNat) (hF.sub ⟨rfl, rfl, rfl, rfl, trivial⟩) (by subst hhs0; exact hS) (by exact ⟨Int.le_refl _, .inl rfl⟩) ?_
 clear hF hS; rintro ⟨u, i⟩ a w hfact hF hS
 subst hhs0; (try dsimp only at hfact); (try dsimp only at hF); (try dsimp only at hS)
 obtain ⟨hi0, hi1⟩ := hfact
 replace hS : St _ [] [_] _ := hS
 have hll := Mk.lvs_len l i.toNat
 have hla := Mk.lvs_at l i.toNat
 refine wp_seq_k ?_; intro K6 hK6
 refine wp_seq_k ?_; intro K7 hK7
 refine regl ?_
 refine wpl_sq hF hS (sq rfl (q_move rfl) <|
   sq rfl (q_muli rfl rfl (by omega)) <|
   sq rfl (q_move rfl) <|
   sq rfl (q_len_sl ty22 hb rfl) <|
   sq rfl (q_lti rfl rfl) <|
   sq rfl (q_move rfl) <|
   sq_end) ?_
 clear hF hS; intro a w hF hS
 refine wpl_and 5 11 2 hF hS rfl rfl rfl rfl rfl (fun hg => have hg := (by first | exact of_decide_eq_true hg | exact hg); sq_go 11 rfl rfl rfl (q_move rfl) <|
   sq_go 11 rfl rfl rfl (q_lti rfl rfl) <|
   sq_end) rfl rfl ?_
 clear hF hS; intro a w hF hS
 refine wpList_nil ?_
 refine hK7 _ _ ?_
 clear hK7
 refine wp_if hF rfl (fun hc1 => ?_) (fun hc1 => ?_)
 ·(try simp only [Bool.or_eq_true, Bool.and_eq_true, Bool.or_eq_false_iff, Bool.and_eq_false_iff, decide_eq_true_eq, decide_eq_false_iff_not, Bool.not_eq_true', Bool.not_eq_false'] at hc1)
  have h2a := Gu.atN_range (l := l) (i := 2 * i) (m := 3) (by omega)
  have h2b := Gu.atN_range (l := l) (i := 2 * i + 1) (m := 5) (by omega)
  refine wp_skip ?_
  refine hK6 _ _ ?_
  clear hK6
  refine wp_seq_k ?_; intro K8 hK8
  refine wp_block ?_
  refine wp_seq_k ?_; intro K9 hK9
  refine reg hF hS (sq rfl (q_move rfl) <|
    sq rfl (q_addi rfl rfl (by omega)) <|
    sq rfl (q_move rfl) <|
    sq rfl (q_move rfl) <|
    sq rfl (q_muli rfl rfl (by omega)) <|
    sq rfl (q_call fn48 rfl (fun w hS => at_ct _ _ _ _ (by omega) w (Sl.mono (hS.le zin0) hb)) (fun _ _ _ h => h)) <|
    sq rfl (q_addi rfl rfl (by omega)) <|
    sq rfl (q_assign rfl) <|
    sq_end) ?_
  clear hF hS; intro a w hF hS
  refine hK9 _ _ ?_
  clear hK9
  refine regl ?_
  refine wpl_sq hF hS (sq rfl (q_move rfl) <|
    sq rfl (q_move rfl) <|
    sq rfl (q_call fn49 rfl (fun w hS => keyB_ct _ (by omega) w ) (fun _ _ _ h => h)) <|
    sq_end) ?_
  clear hF hS; intro a w hF hS
  refine wpl_ef hF hS rfl (ef_bsliceA ty47 ty9 rfl rfl oQ (by decide) rfl rfl) ?_
  clear hF hS; rintro v2 _ _ a w ⟨rfl, rfl⟩ hF hS
  replace hS : St _ [] [_, _] _ := hS
  refine wpl_sq hF hS (sq rfl (q_move rfl) <|
    sq rfl (q_move rfl) <|
    sq rfl (q_muli rfl rfl (by omega)) <|
    sq rfl (q_addi rfl rfl (by omega)) <|
    sq rfl (q_call fn48 rfl (fun w hS => at_ct _ _ _ _ (by omega) w (Sl.mono (hS.le zin0) hb)) (fun _ _ _ h => h)) <|
    sq rfl (q_idx_row ty47 ty9 0 rfl rfl rfl (by omega)) <|
    sq rfl (q_ld_rowM (f := vs) (xs := Mk.vals) ty9 0 [] rfl rfl (by omega) rfl) <|
    sq rfl (q_buildS1 ty75 2 kQ rfl rfl (oc_cons rfl (oc_cons rfl oc_nil)) rfl rfl) <|
    sq_end) ?_
  clear hF hS; intro a w hF hS
  refine wpl_ef hF hS rfl (ef_bsliceW ty24 ty75 rfl bQ (by decide) oQ (by decide) (by decide)) ?_
  clear hF hS; rintro v4 _ _ a w ⟨rfl, rfl⟩ hF hS
  replace hS : St _ [] [_, _, _] _ := hS
  refine wpl_ef hF hS rfl (ef_append ty24 ty75 2 rfl rfl rfl (src_row ty24 (k := 0) rfl oQ) bQ rfl (by decide)) ?_
  clear hF hS; rintro v6 _ _ a w ⟨rfl, rfl⟩ hF hS
  replace hS : St _ [] [_, _, _] _ := hS
  refine wpl_sq hF hS (sq rfl (q_assign rfl) <|
    sq_end) ?_
  clear hF hS; intro a w hF hS
  refine wpList_nil ?_
  refine hK8 _ _ ?_
  clear hK8
  refine reg hF hS (sq rfl (q_move rfl) <|
    sq rfl (q_addi rfl rfl (by omega)) <|
    sq rfl (q_assign rfl) <|
    sq_end) ?_
  clear hF hS; intro a w hF hS
  replace hS := hS.keep zQ (sQ.n.n)
  refine ⟨(v6, i + 1), ?_, ?_, hF.sub ⟨rfl, (by rw [Mk.lvs_next l hi0]; rfl), rfl, rfl, trivial⟩, ?_⟩
  ·(try dsimp only); omega
  ·exact ⟨by omega, .inr ⟨by omega, by omega⟩⟩
  ·(try dsimp only); rw [Mk.lvs_next l hi0, List.flatMap_append, List.length_append]; exact hS
 ·(try simp only [Bool.or_eq_true, Bool.and_eq_true, Bool.or_eq_false_iff, Bool.and_eq_false_iff, decide_eq_true_eq, decide_eq_false_iff_not, Bool.not_eq_true', Bool.not_eq_false'] at hc1)
  have hie := Mk.lvC_at (l := l) hi0 hi1 (by omega)
  rw [hie] at hS
  have hlb := Mk.leaves_bd l
  refine wp_exit ?_
  refine hK4 _ _ ?_
  clear hK4
  refine wp_seq_k ?_; intro K10 hK10
  refine reg hF hS (sq rfl (q_move rfl) <|
    sq rfl (q_assign rfl) <|
    sq_end) ?_
  clear hF hS; intro a w hF hS
  refine hK10 _ _ ?_
  clear hK10
  refine wp_ret ?_
  obtain ⟨zr, hzr, hS⟩ := St.freezeF (xs := Mk.leavesL l) (hS.rowEq (m' := List.length (Mk.leavesL l)) (cs' := List.flatMap kvC (Mk.leavesL l)) (rfl) (rfl)) rfl (by have := hlb.1; omega) (fun x hx => by have := hlb.2 x hx; exact ⟨by omega, by omega⟩)
  exact fn_ret (rs := [.tmp 2]) rfl hF hS (vs := [_]) ⟨rfl, trivial⟩ (zs' := [zr]) (hs' := []) (List.singleton_sublist.2 (by simp)) zQ ⟨zr, hzr, rfl, rfl⟩

set_option maxRecDepth 4000 in
set_option maxHeartbeats 2000000 in
theorem leavesR_ct (v : Value) (raw : List Mk.Lf) (w : World) (hb : Sl encF (ph w) v raw) : Ct Tryd.prog 11 [v] w (SlR encF (Mk.leavesR raw)) := by
 refine fn_enter Tryd.func11 rfl Tryd.ntmps11 (Nat.le_of_ble_eq_true rfl) fun a hF hS => ?_
 have hbl := hb.1
 refine wp_seq_k ?_; intro K1 hK1
 refine reg hF hS (sq rfl (q_assign rfl) <|
   sq_end) ?_
 clear hF hS; intro a w hF hS
 refine hK1 _ _ ?_
 clear hK1
 refine wp_seq_k ?_; intro K2 hK2
 refine reg hF hS (sq rfl (q_assign rfl) <|
   sq_end) ?_
 clear hF hS; intro a w hF hS
 replace hS := hS.nilRow 75 2
 refine hK2 _ _ ?_
 clear hK2
 refine wp_seq_k ?_; intro K3 hK3
 refine wp_seq_k ?_; intro K4 hK4
 refine reg hF hS (sq rfl (q_assign rfl) <|
   sq_end) ?_
 clear hF hS; intro a w hF hS
 refine hK4 _ _ ?_
 clear hK4
 refine wp_block ?_
 obtain ⟨hs0, hhs0, hS⟩ : ∃ h, h = _ ∧ St _ _ h _ := ⟨_, rfl, hS⟩
 refine wp_loopx (γ := Value × Int) ((Value.slice none 0 0), 0) (fun (gg : Value × Int) => match gg with | (u, i) => [(3, u), (4, vi i)]) [(0, _)] (fun (gg : Value × Int) => match gg with | (u, i) => (hs0.set 0 (.row u 75 2 ((raw.take i.toNat).map fun x => (x.1.take 40, x.2.take 40)).length (((raw.take i.toNat).map fun x => (x.1.take 40, x.2.take 40)).flatMap kvC)))) (fun (gg : Value × Int) => match gg with | (u, i) => 0 ≤ i ∧ i ≤ raw.length ∧ i ≤ 8) (fun (gg : Value × Int) => match gg with | (u, i) => (8 - i).toNat) (hF.sub ⟨rfl, rfl, rfl, trivial⟩) (by subst hhs0; exact hS) (by exact ⟨Int.le_refl _, by omega, by omega⟩) ?_
 clear hF hS; rintro ⟨u, i⟩ a w hfact hF hS
 subst hhs0; (try dsimp only at hfact); (try dsimp only at hF); (try dsimp only at hS)
 obtain ⟨hi0, hi1, hi2⟩ := hfact
 replace hS : St _ [] [_] _ := hS
 have hll : ((raw.take i.toNat).map fun x => (x.1.take 40, x.2.take 40)).length ≤ 8 := by rw [List.length_map, List.length_take]; omega
 refine wp_seq_k ?_; intro K5 hK5
 refine wp_seq_k ?_; intro K6 hK6
 refine regl ?_
 refine wpl_sq hF hS (sq rfl (q_move rfl) <|
   sq rfl (q_move rfl) <|
   sq rfl (q_len_sl ty23 hb rfl) <|
   sq rfl (q_lti rfl rfl) <|
   sq rfl (q_move rfl) <|
   sq_end) ?_
 clear hF hS; intro a w hF hS
 refine wpl_and 4 9 2 hF hS rfl rfl rfl rfl rfl (fun hg => have hg := (by first | exact of_decide_eq_true hg | exact hg); sq_go 9 rfl rfl rfl (q_move rfl) <|
   sq_go 9 rfl rfl rfl (q_lti rfl rfl) <|
   sq_end) rfl rfl ?_
 clear hF hS; intro a w hF hS
 refine wpList_nil ?_
 refine hK6 _ _ ?_
 clear hK6
 refine wp_if hF rfl (fun hc1 => ?_) (fun hc1 => ?_)
 ·(try simp only [Bool.or_eq_true, Bool.and_eq_true, Bool.or_eq_false_iff, Bool.and_eq_false_iff, decide_eq_true_eq, decide_eq_false_iff_not, Bool.not_eq_true', Bool.not_eq_false'] at hc1)
  refine wp_skip ?_
  refine hK5 _ _ ?_
  clear hK5
  refine wp_seq_k ?_; intro K7 hK7
  refine wp_block ?_
  revert hS; revert hF; apply regJ (J := J2 (α0 := Value) (α1 := Value) 32 _ _ _ _ _) #[false, false, false, false, false, false, false, false, false, false, false, false, false, false, false, false, false] 17 mixed rfl rfl
  ·intro w hF hS
   refine goW_take 0 _ rfl kQ rfl hF (hS.keep sQ zQ) (q_move rfl) ?_
   clear hF; intro a hF
   refine goW_take 1 _ rfl kQ rfl hF (hS.keep sQ zQ) (q_move rfl) ?_
   clear hF; intro a hF
   refine goW_take 2 _ rfl kQ rfl hF (hS.keep sQ zQ) (q_move rfl) ?_
   clear hF; intro a hF
   refine goW_take 3 _ rfl kQ rfl hF (hS.keep sQ zQ) (q_idx_sl ty23 ty97 hb rfl rfl (by omega)) ?_
   clear hF; intro a hF
   refine goW_take 4 _ rfl kQ rfl hF (hS.keep sQ zQ) (q_idx_F ty97 ty9 hb rfl rfl (by omega) (by decide)) ?_
   clear hF; intro a hF
   refine goW_take 5 _ rfl kQ rfl hF (hS.keep sQ zQ) (q_ld_FK ty9 hb zin0 rfl rfl (by omega)) ?_
   clear hF; intro a hF
   refine goW_take 7 _ rfl kQ rfl hF (hS.keep sQ zQ) (q_move rfl) ?_
   clear hF; intro a hF
   refine goW_take 8 _ rfl kQ rfl hF (hS.keep sQ zQ) (q_move rfl) ?_
   clear hF; intro a hF
   refine goW_take 9 _ rfl kQ rfl hF (hS.keep sQ zQ) (q_idx_sl ty23 ty97 hb rfl rfl (by omega)) ?_
   clear hF; intro a hF
   refine goW_take 10 _ rfl kQ rfl hF (hS.keep sQ zQ) (q_idx_F ty97 ty9 hb rfl rfl (by omega) (by decide)) ?_
   clear hF; intro a hF
   refine goW_take 11 _ rfl kQ rfl hF (hS.keep sQ zQ) (q_ld_FV ty9 hb zin0 rfl rfl (by omega)) ?_
   clear hF; intro a hF
   refine gQ 6 rfl rfl hF hS rfl (ef_qt (q_call fn21 rfl (fun w hS => short_ct _ _ 40 rfl w ) (fun _ _ _ h => h))) ?_
   clear hF hS; rintro _ _ _ a w ⟨rfl, rfl, rfl⟩ hF hS
   refine ⟨⟨.inr hS.k0, .inr hS.k0, .inr hS.k0, .inr hS.k0, .inr hS.k0, iQ, iQ, .inr hS.k0, .inr hS.k0, .inr hS.k0, .inr hS.k0, trivial⟩, ?_⟩
   refine gQ 12 rfl rfl hF hS rfl (ef_qt (q_call fn21 rfl (fun w hS => short_ct _ _ 40 rfl w ) (fun _ _ _ h => h))) ?_
   clear hF hS; rintro _ _ _ a w ⟨rfl, rfl, rfl⟩ hF hS
   refine ⟨⟨iQ, iQ, .inr hS.k0, .inr hS.k0, .inr hS.k0, iQ, iQ, .inr hS.k0, .inr hS.k0, .inr hS.k0, .inr hS.k0, trivial⟩, ?_⟩
   refine goW_take 13 _ rfl kQ rfl hF (hS.keep sQ zQ) (q_buildS1 ty75 2 kQ rfl rfl (oc_cons rfl (oc_cons rfl oc_nil)) rfl rfl) ?_
   clear hF; intro a hF
   refine gQ 14 rfl rfl hF hS rfl (ef_bsliceW ty24 ty75 rfl bQ (by decide) oQ (by decide) (by decide)) ?_
   clear hF hS; rintro v_5_14 _ _ a w ⟨rfl, rfl⟩ hF hS
   refine ⟨⟨iQ, iQ, iQ, .inr hS.k0, .inr hS.k0, .inr hS.k0, iQ, iQ, .inr hS.k0, .inr hS.k0, .inr hS.k0, .inr hS.k0, trivial⟩, ?_⟩
   refine gQ 15 rfl rfl hF hS rfl (ef_append ty24 ty75 1 rfl rfl rfl (src_row ty24 (k := 0) rfl oQ) bQ rfl (by decide)) ?_
   clear hF hS; rintro v_5_15 _ _ a w ⟨rfl, rfl⟩ hF hS
   refine ⟨⟨iQ, iQ, iQ, .inr hS.k0, .inr hS.k0, .inr hS.k0, iQ, iQ, .inr hS.k0, .inr hS.k0, .inr hS.k0, iQ, trivial⟩, ?_⟩
   refine goW_take 16 _ rfl kQ rfl hF (hS.keep sQ zQ) (q_assign rfl) ?_
   clear hF; intro a hF
   exact goW_done kQ (j2_mk v_5_14 v_5_15 (trivial) (hF.sub (L' := [(0, _), (3, _), (4, _)]) ⟨rfl, rfl, rfl, trivial⟩) hS)
  rintro a w ⟨v_5_14, v_5_15, -, hF, hS⟩
  (try dsimp only at hF); (try dsimp only at hS)
  refine hK7 _ _ ?_
  clear hK7
  refine reg hF hS (sq rfl (q_move rfl) <|
    sq rfl (q_addi rfl rfl (by omega)) <|
    sq rfl (q_assign rfl) <|
    sq_end) ?_
  clear hF hS; intro a w hF hS
  replace hS := hS.keep zQ (sQ.n)
  refine ⟨(v_5_15, i + 1), ?_, ?_, hF.sub ⟨rfl, rfl, rfl, trivial⟩, ?_⟩
  ·(try dsimp only); omega
  ·exact ⟨by omega, by omega, by omega⟩
  ·(try dsimp only); rw [Mk.leavesR_step hi0 (by omega), List.flatMap_append, List.length_append]; exact hS
 ·(try simp only [Bool.or_eq_true, Bool.and_eq_true, Bool.or_eq_false_iff, Bool.and_eq_false_iff, decide_eq_true_eq, decide_eq_false_iff_not, Bool.not_eq_true', Bool.not_eq_false'] at hc1)
  have hre := Mk.leavesR_end (raw := raw) hi0 ⟨hi1, hi2⟩ (by omega)
  rw [hre] at hS
  have hlb := Mk.leavesR_bd raw
  refine wp_exit ?_
  refine hK3 _ _ ?_
  clear hK3
  refine wp_seq_k ?_; intro K8 hK8
  refine reg hF hS (sq rfl (q_move rfl) <|
    sq rfl (q_assign rfl) <|
    sq_end) ?_
  clear hF hS; intro a w hF hS
  refine hK8 _ _ ?_
  clear hK8
  refine wp_ret ?_
  obtain ⟨zr, hzr, hS⟩ := St.freezeF (xs := Mk.leavesR raw) (hS.rowEq (m' := List.length (Mk.leavesR raw)) (cs' := List.flatMap kvC (Mk.leavesR raw)) (rfl) (rfl)) rfl (by have := hlb.1; omega) (fun x hx => by have := hlb.2 x hx; exact ⟨by omega, by omega⟩)
  exact fn_ret (rs := [.tmp 2]) rfl hF hS (vs := [_]) ⟨rfl, trivial⟩ (zs' := [zr]) (hs' := []) (List.singleton_sublist.2 (by simp)) zQ ⟨zr, hzr, rfl, rfl⟩

end Go.Proofs.YtdojfnigffeblaaDoor
