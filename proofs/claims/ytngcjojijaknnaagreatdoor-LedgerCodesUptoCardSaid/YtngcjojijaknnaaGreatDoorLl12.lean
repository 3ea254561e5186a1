/- A text of a proof over this seat: walks over the program's functions and the plain laws that they need. -/
import Derived.Test.YtngcjojijaknnaaGreatDoorLl11
import Derived.Test.YtngcjojijaknnaaGreatDoorLgA
import Derived.Test.YtngcjojijaknnaaGreatDoorFwB
set_option linter.all false
namespace Go.Proofs.YtngcjojijaknnaaGreatDoor
open Go.Fw
theorem fn12 : FnOk Tryz.prog 12 := ⟨_, Tryz.func12, rfl, by kernel_rfl⟩
theorem fn17 : FnOk Tryz.prog 17 := ⟨_, Tryz.func17, rfl, by kernel_rfl⟩
theorem fn19 : FnOk Tryz.prog 19 := ⟨_, Tryz.func19, rfl, by kernel_rfl⟩

set_option maxRecDepth 4000 in
set_option maxHeartbeats 2000000 in
theorem genfR_ct (v : Value) (l : List Int) (w : World) (hb : Sl Go.Fw.encI (ph w) v l) : Ct Tryz.prog 10 [v] w (fun r zs hs => ∃ q : List Lg.Fct, zs = [] ∧ hs = [.row r 24 3 q.length (q.flatMap Lg.fcC)] ∧ Lg.Gen q) := by
 refine fn_enter Tryz.func10 rfl Tryz.ntmps10 (Nat.le_of_ble_eq_true rfl) fun a hF hS => ?_
 have hbl := hb.1
 refine wp_seq_k ?_; intro K1 hK1
 refine reg hF hS (sq rfl (q_assign rfl) <|
   sq_end) ?_
 clear hF hS; intro a w hF hS
 refine hK1 _ _ ?_
 clear hK1
 refine wp_seq_k ?_; intro K2 hK2
 refine reg hF hS (sq rfl (q_assign rfl) <|
   sq_end) ?_
 clear hF hS; intro a w hF hS
 replace hS := hS.nilRow 24 3
 refine hK2 _ _ ?_
 clear hK2
 refine wp_seq_k ?_; intro K3 hK3
 refine reg hF hS (sq rfl (q_assign rfl) <|
   sq_end) ?_
 clear hF hS; intro a w hF hS
 refine hK3 _ _ ?_
 clear hK3
 refine wp_seq_k ?_; intro K4 hK4
 refine wp_seq_k ?_; intro K5 hK5
 refine reg hF hS (sq rfl (q_assign rfl) <|
   sq_end) ?_
 clear hF hS; intro a w hF hS
 refine hK5 _ _ ?_
 clear hK5
 refine wp_block ?_
 obtain ⟨hs0, hhs0, hS⟩ : ∃ h, h = _ ∧ St _ _ h _ := ⟨_, rfl, hS⟩
 refine wp_loopx (γ := Value × List Lg.Fct × Int × Nat) ((Value.slice none 0 0), [], 0, 0) (fun (gg : Value × List Lg.Fct × Int × Nat) => match gg with | (u, q, c, i) => [(3, u), (4, vi c), (5, vi (i : Int))]) [(0, _)] (fun (gg : Value × List Lg.Fct × Int × Nat) => match gg with | (u, q, c, i) => (hs0.set 0 (.row u 24 3 q.length (q.flatMap Lg.fcC)))) (fun (gg : Value × List Lg.Fct × Int × Nat) => match gg with | (u, q, c, i) => (i ≤ 12 ∧ q.length = i) ∧ (0 ≤ c ∧ c ≤ 2 * (i : Int)) ∧ Lg.Gst q c) (fun (gg : Value × List Lg.Fct × Int × Nat) => match gg with | (u, q, c, i) => 12 - i) (hF.sub ⟨rfl, rfl, rfl, rfl, trivial⟩) (by subst hhs0; exact hS) (by exact ⟨⟨Nat.zero_le _, rfl⟩, ⟨Int.le_refl _, by decide⟩, Lg.Gst.start⟩) ?_
 clear hF hS; rintro ⟨u, q, c, i⟩ a w hfact hF hS
 subst hhs0; (try dsimp only at hfact); (try dsimp only at hF); (try dsimp only at hS)
 obtain ⟨⟨hi0, hql⟩, hc0, hgs⟩ := hfact
 replace hS : St _ [] [_] _ := hS
 refine wp_seq_k ?_; intro K6 hK6
 refine wp_seq_k ?_; intro K7 hK7
 refine regl ?_
 refine wpl_sq hF hS (sq rfl (q_move rfl) <|
   sq rfl (q_move rfl) <|
   sq rfl (q_len_sl ty22 hb rfl) <|
   sq rfl (q_lti rfl rfl) <|
   sq rfl (q_move rfl) <|
   sq_end) ?_
 clear hF hS; intro a w hF hS
 refine wpl_and 4 11 2 hF hS rfl rfl rfl rfl rfl (fun hg => have hg := (by first | exact of_decide_eq_true hg | exact hg); sq_go 11 rfl rfl rfl (q_move rfl) <|
   sq_go 11 rfl rfl rfl (q_lti rfl rfl) <|
   sq_end) rfl rfl ?_
 clear hF hS; intro a w hF hS
 refine wpList_nil ?_
 refine hK7 _ _ ?_
 clear hK7
 refine wp_if hF rfl (fun hc1 => ?_) (fun hc1 => ?_)
 ·(try simp only [Bool.or_eq_true, Bool.and_eq_true, Bool.or_eq_false_iff, Bool.and_eq_false_iff, decide_eq_true_eq, decide_eq_false_iff_not, Bool.not_eq_true', Bool.not_eq_false'] at hc1)
  have har := Gu.arnd_range (n := l.getD i 0) (m := 4096) (by decide)
  have hirg := sl_rng hb _ (getD_mem (xs := l) (k := i) (by omega))
  have hirg2 : -9223372036854775808 ≤ l.getD (i : Int).toNat 0 ∧ l.getD (i : Int).toNat 0 ≤ 9223372036854775807 := by rw [Int.toNat_natCast]; exact hirg
  have htm : 0 ≤ Gu.arnd (l.getD i 0) 4096 % 3 ∧ Gu.arnd (l.getD i 0) 4096 % 3 ≤ 2 := by omega
  have hka := Gu.arnd_range (n := Gu.arnd (l.getD i 0) 4096 / 3) (m := 6) (by decide)
  refine wp_skip ?_
  refine hK6 _ _ ?_
  clear hK6
  refine wp_seq_k ?_; intro K8 hK8
  refine wp_block ?_
  refine wp_seq_k ?_; intro K9 hK9
  refine reg hF hS (sq rfl (q_move rfl) <|
    sq rfl (q_move rfl) <|
    sq rfl (q_idx_sl ty22 ty3 hb rfl rfl (by omega)) <|
    sq rfl (q_ld_I ty3 hb zin0 rfl rfl (by omega)) <|
    sq rfl (q_call fn11 rfl (fun w hS => arnd_ct _ _ (by omega) (by omega) w ) (fun _ _ _ h => h)) <|
    sq rfl (q_assign rfl) <|
    sq_end) ?_
  clear hF hS; intro a w hF hS
  rw [Int.toNat_natCast] at hF
  refine hK9 _ _ ?_
  clear hK9
  refine wp_seq_k ?_; intro K10 hK10
  refine reg hF hS (sq rfl (q_move rfl) <|
    sq rfl (q_move rfl) <|
    sq rfl (q_remi rfl rfl (by omega)) <|
    sq rfl (q_addi rfl rfl (by omega)) <|
    sq rfl (q_assign rfl) <|
    sq_end) ?_
  clear hF hS; intro a w hF hS
  refine hK10 _ _ ?_
  clear hK10
  refine regl ?_
  refine wpl_sq hF hS (sq rfl (q_move rfl) <|
    sq rfl (q_move rfl) <|
    sq rfl (q_move rfl) <|
    sq rfl (q_quoi rfl rfl (by omega)) <|
    sq rfl (q_call fn22 rfl (fun w hS => key_ct _ (by omega) w ) (fun _ _ _ h => h)) <|
    sq rfl (q_move rfl) <|
    sq rfl (q_quoi rfl rfl (by omega)) <|
    sq rfl (q_remi rfl rfl (by omega)) <|
    sq_end) ?_
  clear hF hS; intro a w hF hS
  refine wpl_ef hF hS rfl (ef_call fn48 rfl (fun w hS => value_ct _ (by omega) w )) ?_
  clear hF hS; rintro _ _ _ a w ⟨_, _, rfl, rfl, ⟨rfl, rfl, sv3, rfl, hv4⟩⟩ hF hS
  replace hS : St _ [] [_] _ := hS
  refine wpl_sq hF hS (sq rfl (q_buildS1 ty24 3 kQ rfl rfl (oc_cons rfl (oc_cons rfl (oc_cons rfl oc_nil))) rfl rfl) <|
    sq_end) ?_
  clear hF hS; intro a w hF hS
  refine wpl_ef hF hS rfl (ef_bsliceW ty26 ty24 rfl bQ (by decide) oQ (by decide) (by decide)) ?_
  clear hF hS; rintro v5 _ _ a w ⟨rfl, rfl⟩ hF hS
  replace hS : St _ [] [_, _] _ := hS
  refine wpl_ef hF hS rfl (ef_append ty26 ty24 1 rfl rfl rfl (src_row ty26 (k := 0) rfl oQ) bQ rfl (by decide)) ?_
  clear hF hS; rintro v7 _ _ a w ⟨rfl, rfl⟩ hF hS
  replace hS : St _ [] [_, _] _ := hS
  refine wpl_sq hF hS (sq rfl (q_assign rfl) <|
    sq_end) ?_
  clear hF hS; intro a w hF hS
  refine wpList_nil ?_
  refine hK8 _ _ ?_
  clear hK8
  refine reg hF hS (sq rfl (q_move rfl) <|
    sq rfl (q_addi rfl rfl (by omega)) <|
    sq rfl (q_assign rfl) <|
    sq_end) ?_
  clear hF hS; intro a w hF hS
  replace hS := hS.keep zQ (sQ.n)
  refine ⟨(v7, (q ++ [(⟨c + Gu.arnd (l.getD i 0) 4096 % 3, Lg.keyOf (Gu.arnd (l.getD i 0) 4096 / 3), sv3⟩ : Lg.Fct)]), (c + Gu.arnd (l.getD i 0) 4096 % 3), i + 1), ?_, ?_, hF.sub ⟨rfl, rfl, rfl, rfl, trivial⟩, ?_⟩
  ·(try dsimp only); omega
  ·exact ⟨⟨by omega, by rw [List.length_append, hql]; rfl⟩, ⟨by omega, by omega⟩, hgs.add (by omega) (by omega) (by omega) (Lg.keyL_at _ (by omega)) (hv4.2 (by omega))⟩
  ·have e1 := Lg.fc_snoc q (⟨c + Gu.arnd (l.getD i 0) 4096 % 3, Lg.keyOf (Gu.arnd (l.getD i 0) 4096 / 3), sv3⟩ : Lg.Fct)
   have e2 := Lg.len_snoc q (⟨c + Gu.arnd (l.getD i 0) 4096 % 3, Lg.keyOf (Gu.arnd (l.getD i 0) 4096 / 3), sv3⟩ : Lg.Fct)
   dsimp only at e1
   rw [e1, e2] at hS
   exact hS
 ·(try simp only [Bool.or_eq_true, Bool.and_eq_true, Bool.or_eq_false_iff, Bool.and_eq_false_iff, decide_eq_true_eq, decide_eq_false_iff_not, Bool.not_eq_true', Bool.not_eq_false'] at hc1)
  refine wp_exit ?_
  refine hK4 _ _ ?_
  clear hK4
  refine wp_seq_k ?_; intro K11 hK11
  refine reg hF hS (sq rfl (q_move rfl) <|
    sq rfl (q_assign rfl) <|
    sq_end) ?_
  clear hF hS; intro a w hF hS
  refine hK11 _ _ ?_
  clear hK11
  refine wp_ret ?_
  exact fn_ret (rs := [.tmp 2]) rfl hF hS (vs := [_]) ⟨rfl, trivial⟩ zQ sQ ⟨q, rfl, rfl, hgs.gen (by omega) (by omega)⟩

attribute [local irreducible] Wi.int Wi.bytes Wi.getInt Wi.getBytes Sha.sum Jn.good Jn.hd Jn.lb Jn.cnt Jn.unp Jn.recd Jn.app Jn.opn Lg.dec Lg.enc Gu.arnd Lg.valid

set_option maxRecDepth 4000 in
set_option maxHeartbeats 2000000 in
theorem llaw1_ct (va : Value) (l0 : List Int) (raw9 : Lg.Fct) (how by9 also : Int) (vb9 : Value) (b : List UInt8) (hrw : Lg.FcOk raw9) (hrl : raw9.ky.length ≤ 1048576 ∧ raw9.vl.length ≤ 1048576) (hh : -9223372036854775808 ≤ how ∧ how ≤ 9223372036854775807) (hy : -9223372036854775808 ≤ by9 ∧ by9 ≤ 9223372036854775807) (ha : -9223372036854775808 ≤ also ∧ also ≤ 9223372036854775807) (w : World) (hb1 : Sl Go.Fw.encI (ph w) va l0) (hb2 : Sl encB (ph w) vb9 b) {fz0 : Nat × Nat} {bt0 : TypeId} (hg0 : w.heap[1]? = some (.cells (Sha.kc.map vw).toArray bt0 fz0)) : Ct Tryz.prog 3 [va, .agg [vi raw9.tk, vs raw9.ky, vs raw9.vl].toArray, vi how, vi by9, vi also, vb9] w (fun r _ _ => r = .bool true) := by
 refine fn_enter Tryz.func3 rfl Tryz.ntmps3 (Nat.le_of_ble_eq_true rfl) fun a hF hS => ?_
 have hbl := hb2.1
 obtain ⟨z0, hz0e⟩ : ∃ z, z = ph w := ⟨_, rfl⟩
 rw [← hz0e] at hb2
 have har1 := Gu.arnd_range (n := by9) (m := 2) (by decide)
 have har2 := Gu.arnd_range (n := how) (m := 2) (by decide)
 have htd := tdiv3_rg hy
 refine wp_seq_k ?_; intro K1 hK1
 refine regl ?_
 refine wpl_ef hF hS rfl (ef_boxA rfl) ?_
 clear hF hS; rintro _ _ _ a w ⟨b1, rfl, rfl, rfl⟩ hF hS
 refine wpl_sq hF hS (sq rfl (q_assign rfl) <|
   sq_end) ?_
 clear hF hS; intro a w hF hS
 refine wpList_nil ?_
 refine hK1 _ _ ?_
 clear hK1
 refine wp_seq_k ?_; intro K2 hK2
 revert hS; revert hF; apply regJ (J := J6 (α0 := Value) (α1 := List Lg.Fct) (α2 := Value) (α3 := Value) (α4 := Value) (α5 := Value) 121 _ _ _ _ _) #[false, false, false, false, false, false, false, false, false, false, false, false, false, false, false, false, false, false, false, false] 20 mixed rfl rfl
 ·intro w hF hS
  refine goW_take 0 _ rfl kQ rfl hF (hS.keep sQ zQ) (q_move rfl) ?_
  clear hF; intro a hF
  refine goW_take 2 _ rfl kQ rfl hF (hS.keep sQ sQ) (q_ld_blkW ty24 0 rfl rfl bQ rfl) ?_
  clear hF; intro a hF
  refine goW_take 3 _ rfl kQ rfl hF (hS.keep sQ zQ) (q_move rfl) ?_
  clear hF; intro a hF
  refine goW_take 4 _ rfl kQ rfl hF (hS.keep sQ zQ) (q_buildP (places := [(0, 1), (1, 1), (2, 1)]) (cells := [_, _, .string ⟨(List.nil : List UInt8).toArray⟩]) ty24 kQ rfl (by rfl)) ?_
  clear hF; intro a hF
  refine goW_take 5 _ rfl kQ rfl hF (hS.keep sQ zQ) (q_move rfl) ?_
  clear hF; intro a hF
  refine goW_take 11 _ rfl kQ rfl hF (hS.keep sQ zQ) (q_move rfl) ?_
  clear hF; intro a hF
  refine gQ 1 rfl rfl hF hS rfl (ef_call fn10 rfl (fun w hS => genfR_ct _ _ w (Sl.mono (hS.le zin0) hb1))) ?_
  clear hF hS; rintro v_1_1 _ _ a w ⟨_, _, rfl, rfl, ⟨q_1_1, rfl, rfl, hg_1_1⟩⟩ hF hS
  replace hS : St _ [] [_, _] _ := (hS)
  have hgl9 := hg_1_1.len
  replace hS : St _ [] [_, _] _ := hS
  refine ⟨⟨.inr hS.k0, .inr hS.k0, .inr hS.k0, .inr hS.k0, .inr (hS.k1 (sQ.n)), iQ, trivial⟩, ?_⟩
  refine gQ 6 rfl rfl hF hS rfl (ef_qt (q_call fn11 rfl (fun w hS => arnd_ct _ _ (by omega) hy w ) (fun _ _ _ h => h))) ?_
  clear hF hS; rintro _ _ _ a w ⟨rfl, rfl, rfl⟩ hF hS
  refine ⟨⟨.inr hS.k0, iQ, .inr hS.k0, .inr hS.k0, .inr (hS.k1 (sQ.n)), iQ, trivial⟩, ?_⟩
  refine goW_take 7 _ rfl kQ rfl hF (hS.keep sQ zQ) (q_addi rfl rfl (by omega)) ?_
  clear hF; intro a hF
  refine goW_fork [8, 12] kQ rfl ⟨?_, ?_, trivial⟩
  ·refine stepW_ef _ rfl rfl hF hS rfl (ef_mksB (m := (256 + Gu.arnd by9 2).toNat) ty25 ty5 (by show some (vi (256 + Gu.arnd by9 2)) = some (vi _); rw [Int.toNat_of_nonneg (by omega)]) (by show some (vi (256 + Gu.arnd by9 2)) = some (vi _); rw [Int.toNat_of_nonneg (by omega)]) ⟨by omega, by omega⟩) ?_
   clear hF hS; rintro v_1_8 _ _ a w ⟨rfl, rfl⟩ hF hS
   refine ⟨⟨iQ, .inr hS.k0, iQ, .inr hS.k0, .inr hS.k0, .inr (hS.k1 (sQ.n.n)), iQ, trivial⟩, ?_⟩
   refine goW_take 9 _ rfl kQ rfl hF (hS.keep sQ (zQ.k)) (q_b2s_row ty25 ty9 ty5 0 rfl rfl) ?_
   clear hF; intro a hF
   refine goW_take 10 _ rfl kQ rfl hF (hS.keep sQ zQ) (q_build1 ty24 3 kQ rfl rfl rfl (by decide)) ?_
   clear hF; intro a hF
   refine gQ 12 rfl rfl hF hS rfl (ef_qt (q_call fn11 rfl (fun w hS => arnd_ct _ _ (by omega) hh w ) (fun _ _ _ h => h))) ?_
   clear hF hS; rintro _ _ _ a w ⟨rfl, rfl, rfl⟩ hF hS
   refine ⟨⟨.inr hS.k0, .inr (hS.k1 (zQ.k)), iQ, iQ, iQ, .inr hS.k0, .inr hS.k0, .inr (hS.k1 (sQ.n.n)), iQ, trivial⟩, ?_⟩
   refine goW_take 13 _ rfl kQ rfl hF (hS.keep sQ zQ) (q_addi rfl rfl (by omega)) ?_
   clear hF; intro a hF
   refine gQ 14 rfl rfl hF hS rfl (ef_mksB (m := (7000 + Gu.arnd how 2).toNat) ty25 ty5 (by show some (vi (7000 + Gu.arnd how 2)) = some (vi _); rw [Int.toNat_of_nonneg (by omega)]) (by show some (vi (7000 + Gu.arnd how 2)) = some (vi _); rw [Int.toNat_of_nonneg (by omega)]) ⟨by omega, by omega⟩) ?_
   clear hF hS; rintro v_1_14 _ _ a w ⟨rfl, rfl⟩ hF hS
   refine ⟨⟨iQ, .inr hS.k0, .inr (hS.k1 (zQ.k.n)), iQ, iQ, iQ, .inr hS.k0, .inr hS.k0, .inr (hS.k1 (sQ.n.n.n)), iQ, trivial⟩, ?_⟩
   refine goW_take 15 _ rfl kQ rfl hF (hS.keep sQ (zQ.k)) (q_b2s_row ty25 ty9 ty5 0 rfl rfl) ?_
   clear hF; intro a hF
   refine goW_take 16 _ rfl kQ rfl hF (hS.keep sQ zQ) (q_buildP (places := [(0, 1), (1, 1), (2, 1)]) (cells := [.int .i64 0, _, _]) ty24 kQ rfl (by rfl)) ?_
   clear hF; intro a hF
   refine gQ 17 rfl rfl hF hS rfl (ef_bsliceC ty26 ty24 [[_, _, _], [_, _, _], [_, _, _], [_, _, _]] rfl rfl (by simp) (oc2_cons (oc_cons rfl (oc_cons rfl (oc_cons rfl oc_nil))) (oc2_cons (oc_cons rfl (oc_cons rfl (oc_cons rfl oc_nil))) (oc2_cons (oc_cons rfl (oc_cons rfl (oc_cons rfl oc_nil))) (oc2_cons (oc_cons rfl (oc_cons rfl (oc_cons rfl oc_nil))) oc2_nil)))) (by decide) rfl rfl) ?_
   clear hF hS; rintro v_1_17 _ _ a w ⟨rfl, rfl⟩ hF hS
   refine ⟨⟨iQ, iQ, iQ, iQ, iQ, iQ, iQ, iQ, iQ, iQ, iQ, iQ, trivial⟩, ?_⟩
   refine gQ 18 rfl rfl hF hS rfl (ef_append ty26 ty24 3 rfl rfl rfl (src_row ty26 (k := 0) rfl (oc2_flat (oc2_cons (oc_cons rfl (oc_cons rfl (oc_cons rfl oc_nil))) (oc2_cons (oc_cons rfl (oc_cons rfl (oc_cons rfl oc_nil))) (oc2_cons (oc_cons rfl (oc_cons rfl (oc_cons rfl oc_nil))) (oc2_cons (oc_cons rfl (oc_cons rfl (oc_cons rfl oc_nil))) oc2_nil)))))) bQ rfl (by decide)) ?_
   clear hF hS; rintro v_1_18 _ _ a w ⟨rfl, rfl⟩ hF hS
   refine ⟨⟨iQ, iQ, iQ, iQ, iQ, iQ, iQ, iQ, iQ, iQ, iQ, iQ, trivial⟩, ?_⟩
   refine goW_take 19 _ rfl kQ rfl hF (hS.keep sQ zQ) (q_assign rfl) ?_
   clear hF; intro a hF
   exact goW_done kQ (j6_mk v_1_1 q_1_1 v_1_8 v_1_14 v_1_17 v_1_18 ((And.intro hg_1_1 trivial)) (hF.sub (L' := [(2, _), (3, _), (4, _), (5, _), (13, _)]) ⟨rfl, rfl, rfl, rfl, rfl, trivial⟩) hS)
  ·refine stepW_ef _ rfl rfl hF hS rfl (ef_qt (q_call fn11 rfl (fun w hS => arnd_ct _ _ (by omega) hh w ) (fun _ _ _ h => h))) ?_
   clear hF hS; rintro _ _ _ a w ⟨rfl, rfl, rfl⟩ hF hS
   refine ⟨⟨.inr hS.k0, iQ, iQ, .inr hS.k0, .inr hS.k0, .inr (hS.k1 (sQ.n)), iQ, trivial⟩, ?_⟩
   refine goW_take 13 _ rfl kQ rfl hF (hS.keep sQ zQ) (q_addi rfl rfl (by omega)) ?_
   clear hF; intro a hF
   refine goW_fork [8, 14] kQ rfl ⟨?_, ?_, trivial⟩
   ·refine stepW_ef _ rfl rfl hF hS rfl (ef_mksB (m := (256 + Gu.arnd by9 2).toNat) ty25 ty5 (by show some (vi (256 + Gu.arnd by9 2)) = some (vi _); rw [Int.toNat_of_nonneg (by omega)]) (by show some (vi (256 + Gu.arnd by9 2)) = some (vi _); rw [Int.toNat_of_nonneg (by omega)]) ⟨by omega, by omega⟩) ?_
    clear hF hS; rintro v_1_8 _ _ a w ⟨rfl, rfl⟩ hF hS
    refine ⟨⟨.inr hS.k0, iQ, iQ, iQ, .inr hS.k0, .inr hS.k0, .inr (hS.k1 (sQ.n.n)), iQ, trivial⟩, ?_⟩
    refine goW_take 9 _ rfl kQ rfl hF (hS.keep sQ (zQ.k)) (q_b2s_row ty25 ty9 ty5 0 rfl rfl) ?_
    clear hF; intro a hF
    refine goW_take 10 _ rfl kQ rfl hF (hS.keep sQ zQ) (q_build1 ty24 3 kQ rfl rfl rfl (by decide)) ?_
    clear hF; intro a hF
    refine gQ 14 rfl rfl hF hS rfl (ef_mksB (m := (7000 + Gu.arnd how 2).toNat) ty25 ty5 (by show some (vi (7000 + Gu.arnd how 2)) = some (vi _); rw [Int.toNat_of_nonneg (by omega)]) (by show some (vi (7000 + Gu.arnd how 2)) = some (vi _); rw [Int.toNat_of_nonneg (by omega)]) ⟨by omega, by omega⟩) ?_
    clear hF hS; rintro v_1_14 _ _ a w ⟨rfl, rfl⟩ hF hS
    refine ⟨⟨.inr hS.k0, .inr (hS.k1 (zQ.k.n)), iQ, iQ, iQ, iQ, .inr hS.k0, .inr hS.k0, .inr (hS.k1 (sQ.n.n.n)), iQ, trivial⟩, ?_⟩
    refine goW_take 15 _ rfl kQ rfl hF (hS.keep sQ (zQ.k)) (q_b2s_row ty25 ty9 ty5 0 rfl rfl) ?_
    clear hF; intro a hF
    refine goW_take 16 _ rfl kQ rfl hF (hS.keep sQ zQ) (q_buildP (places := [(0, 1), (1, 1), (2, 1)]) (cells := [.int .i64 0, _, _]) ty24 kQ rfl (by rfl)) ?_
    clear hF; intro a hF
    refine gQ 17 rfl rfl hF hS rfl (ef_bsliceC ty26 ty24 [[_, _, _], [_, _, _], [_, _, _], [_, _, _]] rfl rfl (by simp) (oc2_cons (oc_cons rfl (oc_cons rfl (oc_cons rfl oc_nil))) (oc2_cons (oc_cons rfl (oc_cons rfl (oc_cons rfl oc_nil))) (oc2_cons (oc_cons rfl (oc_cons rfl (oc_cons rfl oc_nil))) (oc2_cons (oc_cons rfl (oc_cons rfl (oc_cons rfl oc_nil))) oc2_nil)))) (by decide) rfl rfl) ?_
    clear hF hS; rintro v_1_17 _ _ a w ⟨rfl, rfl⟩ hF hS
    refine ⟨⟨iQ, iQ, iQ, iQ, iQ, iQ, iQ, iQ, iQ, iQ, iQ, iQ, trivial⟩, ?_⟩
    refine gQ 18 rfl rfl hF hS rfl (ef_append ty26 ty24 3 rfl rfl rfl (src_row ty26 (k := 0) rfl (oc2_flat (oc2_cons (oc_cons rfl (oc_cons rfl (oc_cons rfl oc_nil))) (oc2_cons (oc_cons rfl (oc_cons rfl (oc_cons rfl oc_nil))) (oc2_cons (oc_cons rfl (oc_cons rfl (oc_cons rfl oc_nil))) (oc2_cons (oc_cons rfl (oc_cons rfl (oc_cons rfl oc_nil))) oc2_nil)))))) bQ rfl (by decide)) ?_
    clear hF hS; rintro v_1_18 _ _ a w ⟨rfl, rfl⟩ hF hS
    refine ⟨⟨iQ, iQ, iQ, iQ, iQ, iQ, iQ, iQ, iQ, iQ, iQ, iQ, trivial⟩, ?_⟩
    refine goW_take 19 _ rfl kQ rfl hF (hS.keep sQ zQ) (q_assign rfl) ?_
    clear hF; intro a hF
    exact goW_done kQ (j6_mk v_1_1 q_1_1 v_1_8 v_1_14 v_1_17 v_1_18 ((And.intro hg_1_1 trivial)) (hF.sub (L' := [(2, _), (3, _), (4, _), (5, _), (13, _)]) ⟨rfl, rfl, rfl, rfl, rfl, trivial⟩) hS)
   ·refine stepW_ef _ rfl rfl hF hS rfl (ef_mksB (m := (7000 + Gu.arnd how 2).toNat) ty25 ty5 (by show some (vi (7000 + Gu.arnd how 2)) = some (vi _); rw [Int.toNat_of_nonneg (by omega)]) (by show some (vi (7000 + Gu.arnd how 2)) = some (vi _); rw [Int.toNat_of_nonneg (by omega)]) ⟨by omega, by omega⟩) ?_
    clear hF hS; rintro v_1_14 _ _ a w ⟨rfl, rfl⟩ hF hS
    refine ⟨⟨iQ, .inr hS.k0, iQ, iQ, .inr hS.k0, .inr hS.k0, .inr (hS.k1 (sQ.n.n)), iQ, trivial⟩, ?_⟩
    refine goW_take 15 _ rfl kQ rfl hF (hS.keep sQ (zQ.k)) (q_b2s_row ty25 ty9 ty5 0 rfl rfl) ?_
    clear hF; intro a hF
    refine goW_take 16 _ rfl kQ rfl hF (hS.keep sQ zQ) (q_buildP (places := [(0, 1), (1, 1), (2, 1)]) (cells := [.int .i64 0, _, _]) ty24 kQ rfl (by rfl)) ?_
    clear hF; intro a hF
    refine gQ 8 rfl rfl hF hS rfl (ef_mksB (m := (256 + Gu.arnd by9 2).toNat) ty25 ty5 (by show some (vi (256 + Gu.arnd by9 2)) = some (vi _); rw [Int.toNat_of_nonneg (by omega)]) (by show some (vi (256 + Gu.arnd by9 2)) = some (vi _); rw [Int.toNat_of_nonneg (by omega)]) ⟨by omega, by omega⟩) ?_
    clear hF hS; rintro v_1_8 _ _ a w ⟨rfl, rfl⟩ hF hS
    refine ⟨⟨.inr hS.k0, .inr (hS.k1 (zQ.k.n)), iQ, iQ, iQ, iQ, .inr hS.k0, .inr hS.k0, .inr (hS.k1 (sQ.n.n.n)), iQ, trivial⟩, ?_⟩
    refine goW_take 9 _ rfl kQ rfl hF (hS.keep sQ (zQ.k)) (q_b2s_row ty25 ty9 ty5 0 rfl rfl) ?_
    clear hF; intro a hF
    refine goW_take 10 _ rfl kQ rfl hF (hS.keep sQ zQ) (q_build1 ty24 3 kQ rfl rfl rfl (by decide)) ?_
    clear hF; intro a hF
    refine gQ 17 rfl rfl hF hS rfl (ef_bsliceC ty26 ty24 [[_, _, _], [_, _, _], [_, _, _], [_, _, _]] rfl rfl (by simp) (oc2_cons (oc_cons rfl (oc_cons rfl (oc_cons rfl oc_nil))) (oc2_cons (oc_cons rfl (oc_cons rfl (oc_cons rfl oc_nil))) (oc2_cons (oc_cons rfl (oc_cons rfl (oc_cons rfl oc_nil))) (oc2_cons (oc_cons rfl (oc_cons rfl (oc_cons rfl oc_nil))) oc2_nil)))) (by decide) rfl rfl) ?_
    clear hF hS; rintro v_1_17 _ _ a w ⟨rfl, rfl⟩ hF hS
    refine ⟨⟨iQ, iQ, iQ, iQ, iQ, iQ, iQ, iQ, iQ, iQ, iQ, iQ, trivial⟩, ?_⟩
    refine gQ 18 rfl rfl hF hS rfl (ef_append ty26 ty24 3 rfl rfl rfl (src_row ty26 (k := 0) rfl (oc2_flat (oc2_cons (oc_cons rfl (oc_cons rfl (oc_cons rfl oc_nil))) (oc2_cons (oc_cons rfl (oc_cons rfl (oc_cons rfl oc_nil))) (oc2_cons (oc_cons rfl (oc_cons rfl (oc_cons rfl oc_nil))) (oc2_cons (oc_cons rfl (oc_cons rfl (oc_cons rfl oc_nil))) oc2_nil)))))) bQ rfl (by decide)) ?_
    clear hF hS; rintro v_1_18 _ _ a w ⟨rfl, rfl⟩ hF hS
    refine ⟨⟨iQ, iQ, iQ, iQ, iQ, iQ, iQ, iQ, iQ, iQ, iQ, iQ, trivial⟩, ?_⟩
    refine goW_take 19 _ rfl kQ rfl hF (hS.keep sQ zQ) (q_assign rfl) ?_
    clear hF; intro a hF
    exact goW_done kQ (j6_mk v_1_1 q_1_1 v_1_8 v_1_14 v_1_17 v_1_18 ((And.intro hg_1_1 trivial)) (hF.sub (L' := [(2, _), (3, _), (4, _), (5, _), (13, _)]) ⟨rfl, rfl, rfl, rfl, rfl, trivial⟩) (hS.perm (.cons _ (.swap _ _ _))))
 rintro a w ⟨v_1_1, q_1_1, v_1_8, v_1_14, v_1_17, v_1_18, ⟨hg_1_1, -⟩, hF, hS⟩
 (try dsimp only at hF); (try dsimp only at hS)
 replace hS := hS.perm (.cons _ (.cons _ (.swap _ _ _)))
 replace hS := hS.perm (.cons _ (.swap _ _ _))
 replace hS := hS.perm (.swap _ _ _)
 obtain ⟨QF, hQF⟩ : ∃ x, x = q_1_1 ++ raw9 :: [⟨by9, [107], []⟩, ⟨0, List.replicate (256 + Gu.arnd by9 2).toNat 0, []⟩, ⟨0, [107], List.replicate (7000 + Gu.arnd how 2).toNat 0⟩] := ⟨_, rfl⟩
 have hgen := hg_1_1
 obtain ⟨hQl, hQs⟩ := Lg.codes_facts hgen hrw hrl hy (k := Gu.arnd by9 2) (m := Gu.arnd how 2) har1 har2 hQF
 replace hS := hS.rowEq (m' := QF.length) (cs' := QF.flatMap Lg.fcC) (by rw [hQF, List.length_append]; rfl) (by rw [hQF, List.flatMap_append]; rfl)
 obtain ⟨zq, hzq, hS⟩ := St.freezeY (xs := QF) hS rfl (by omega) (fun f hf => (hQs f hf).1)
 replace hS : St _ [_] [_, _, _, _] _ := hS
 refine hK2 _ _ ?_
 clear hK2
 refine wp_seq_k ?_; intro K3 hK3
 refine regl ?_
 refine wpl_sq hF hS (sq rfl (q_move rfl) <|
   sq_end) ?_
 clear hF hS; intro a w hF hS
 have hoc4 := (oc_cons (sl_one' hb2) (oc_cons (show (Value.slice none 0 0).oneCell' = true from rfl) oc_nil))
 refine wpl_ef hF hS rfl (ef_bsliceA ty29 ty25 rfl rfl (oc_cons (sl_one' hb2) (oc_cons (show (Value.slice none 0 0).oneCell' = true from rfl) oc_nil)) (by decide) rfl rfl) ?_
 clear hF hS; rintro v2 _ _ a w ⟨rfl, rfl⟩ hF hS
 replace hS : St _ [_] [_, _, _, _, _] _ := hS
 refine wpl_sq hF hS (sq rfl (q_assign rfl) <|
   sq_end) ?_
 clear hF hS; intro a w hF hS
 refine wpList_nil ?_
 refine hK3 _ _ ?_
 clear hK3
 refine wp_seq_k ?_; intro K4 hK4
 refine wp_seq_k ?_; intro K5 hK5
 refine reg hF hS (sq rfl (q_assign rfl) <|
   sq_end) ?_
 clear hF hS; intro a w hF hS
 refine hK5 _ _ ?_
 clear hK5
 refine wp_block ?_
 obtain ⟨hs0, hhs0, hS⟩ : ∃ h, h = _ ∧ St _ _ h _ := ⟨_, rfl, hS⟩
 obtain ⟨zs0, hzs0, hS⟩ : ∃ h, h = _ ∧ St _ h _ _ := ⟨_, rfl, hS⟩
 replace hS := hS.zone00
 refine wp_loopz (γ := Value × PH × List Value × Nat) (v2, fun _ => none, [vb9, .slice none 0 0], 0) (fun (gg : Value × PH × List Value × Nat) => match gg with | (u, z, vl, i) => z :: zs0) (fun (gg : Value × PH × List Value × Nat) => match gg with | (u, z, vl, i) => [(14, u), (15, vi (i : Int))]) [(2, _), (3, _), (4, _), (13, _)] (fun (gg : Value × PH × List Value × Nat) => match gg with | (u, z, vl, i) => (hs0.set 0 (.row u 25 1 vl.length vl))) (fun (gg : Value × PH × List Value × Nat) => match gg with | (u, z, vl, i) => (i ≤ QF.length ∧ vl.length ≤ 2 + 3 * i) ∧ Rws encB z0 z vl) (fun (gg : Value × PH × List Value × Nat) => match gg with | (u, z, vl, i) => QF.length - i) (hF.sub ⟨rfl, rfl, rfl, rfl, rfl, rfl, trivial⟩) (by subst hhs0; exact hS) (by exact ⟨⟨Nat.zero_le _, Nat.le_refl _⟩, Rws.cons (.inl hb2) (Rws.cons (.inl sl_nil) Rws.nil)⟩) ?_
 clear hF hS; rintro ⟨u, z, vl, i⟩ a w hfact hF hS
 subst hhs0; subst hzs0; (try dsimp only at hfact); (try dsimp only at hF); (try dsimp only at hS)
 obtain ⟨⟨hi0, hvl⟩, hrw2⟩ := hfact
 replace hS : St _ [_, _] [_, _, _, _, _] _ := hS
 refine wp_seq_k ?_; intro K6 hK6
 refine wp_seq_k ?_; intro K7 hK7
 refine reg hF hS (sq rfl (q_move rfl) <|
   sq rfl (q_move rfl) <|
   sq rfl (q_len_sl ty26 hzq rfl) <|
   sq rfl (q_lti rfl rfl) <|
   sq_end) ?_
 clear hF hS; intro a w hF hS
 refine hK7 _ _ ?_
 clear hK7
 refine wp_ifd hF rfl (fun hc1 => ?_) (fun hc1 => ?_)
 ·have hqi9 := hQs _ (Lg.fq_mem (l := QF) (i := i) (by omega))
  have hqi : Lg.FcOk (QF.getD (i : Int).toNat Lg.f0) ∧ ((QF.getD (i : Int).toNat Lg.f0).ky.length ≤ 1048576 ∧ (QF.getD (i : Int).toNat Lg.f0).vl.length ≤ 1048576) := by rw [Int.toNat_natCast]; exact hqi9
  have hel := Lg.enc_len (QF.getD (i : Int).toNat Lg.f0)
  have hel2 := Lg.enc_len (QF.getD i Lg.f0)
  have hqi8 := hqi9.2
  refine wp_skip ?_
  refine hK6 _ _ ?_
  clear hK6
  refine wp_seq_k ?_; intro K8 hK8
  refine wp_block ?_
  refine wp_seq_k ?_; intro K9 hK9
  refine regl ?_
  refine wpl_sq hF hS (sq rfl (q_move rfl) <|
    sq rfl (q_move rfl) <|
    sq rfl (q_idx_sl ty26 ty24 hzq rfl rfl (by omega)) <|
    sq rfl (q_ld_Y ty24 hzq (.inr (by simp)) rfl rfl (by omega)) <|
    sq_end) ?_
  clear hF hS; intro a w hF hS
  refine wpl_ef hF hS rfl (ef_call fn12 rfl (fun w hS => renc_ct (QF.getD (i : Int).toNat Lg.f0) hqi.1 hqi.2 w )) ?_
  clear hF hS; rintro v5 _ _ a w ⟨_, _, rfl, rfl, rfl, rfl⟩ hF hS
  replace hS : St _ [_, _] [_, _, _, _, _, _] _ := hS
  refine wpl_sq hF hS (sq rfl (q_assign rfl) <|
    sq_end) ?_
  clear hF hS; intro a w hF hS
  refine wpList_nil ?_
  refine hK9 _ _ ?_
  clear hK9
  refine wp_seq_k ?_; intro K10 hK10
  refine wp_seq_k ?_; intro K11 hK11
  revert hS; revert hF; apply regJ (J := J1 (α0 := Value) 121 _ _ _ _ _) #[false, false, false, false, false, false, false, false, false, false, false, false, false, false, false, false, false, false, false, false, false] 21 mixed rfl rfl
  ·intro w hF hS
   refine goW_take 0 _ rfl kQ rfl hF (hS.keep sQ zQ) (q_move rfl) ?_
   clear hF; intro a hF
   refine goW_take 1 _ rfl kQ rfl hF (hS.keep sQ zQ) (q_move rfl) ?_
   clear hF; intro a hF
   refine goW_take 2 _ rfl kQ rfl hF (hS.keep sQ zQ) (q_idx_sl ty26 ty24 hzq rfl rfl (by omega)) ?_
   clear hF; intro a hF
   refine goW_take 3 _ rfl kQ rfl hF (hS.keep sQ zQ) (q_ld_Y ty24 hzq (.inr (by simp)) rfl rfl (by omega)) ?_
   clear hF; intro a hF
   refine goW_take 5 _ rfl kQ rfl hF (hS.keep sQ zQ) (q_move rfl) ?_
   clear hF; intro a hF
   refine goW_take 6 _ rfl kQ rfl hF (hS.keep sQ zQ) (q_move rfl) ?_
   clear hF; intro a hF
   refine goW_take 7 _ rfl kQ rfl hF (hS.keep sQ zQ) (q_idx_sl ty26 ty24 hzq rfl rfl (by omega)) ?_
   clear hF; intro a hF
   refine goW_take 8 _ rfl kQ rfl hF (hS.keep sQ zQ) (q_ld_Y ty24 hzq (.inr (by simp)) rfl rfl (by omega)) ?_
   clear hF; intro a hF
   refine gQ 4 rfl rfl hF hS rfl (ef_qt (q_call fn13 rfl (fun w hS => fval_ct (QF.getD (i : Int).toNat Lg.f0) hqi.1 w ) (fun _ _ _ h => h))) ?_
   clear hF hS; rintro _ _ _ a w ⟨rfl, rfl, rfl⟩ hF hS
   refine ⟨⟨.inr (hS.keep sQ zQ), .inr (hS.keep sQ zQ), .inr (hS.keep sQ zQ), .inr (hS.keep sQ zQ), iQ, iQ, .inr (hS.keep sQ zQ), .inr (hS.keep sQ zQ), trivial⟩, ?_⟩
   refine gQ 9 rfl rfl hF hS rfl (ef_qt (q_call fn14 rfl (fun w hS => rfval_ct (QF.getD (i : Int).toNat Lg.f0) hqi.1 w ) (fun _ _ _ h => h))) ?_
   clear hF hS; rintro _ _ _ a w ⟨rfl, rfl, rfl⟩ hF hS
   refine ⟨⟨iQ, iQ, .inr (hS.keep sQ zQ), .inr (hS.keep sQ zQ), iQ, iQ, .inr (hS.keep sQ zQ), .inr (hS.keep sQ zQ), trivial⟩, ?_⟩
   refine goW_take 10 _ rfl kQ rfl hF (hS.keep sQ zQ) (q_nf (q_nei rfl rfl) (by simp)) ?_
   clear hF; intro a hF
   refine goW_take 11 _ rfl kQ rfl hF (hS.keep sQ zQ) (q_move rfl) ?_
   clear hF; intro a hF
   refine goW_takeg 12 _ rfl (wanted_go 66 rfl rfl) kQ rfl hF (hS.keep sQ zQ) (q_move rfl) ?_
   clear hF; intro a hF
   refine goW_takeg 13 _ rfl (wanted_go 66 rfl rfl) kQ rfl hF (hS.keep sQ zQ) (q_move rfl) ?_
   clear hF; intro a hF
   refine goW_takeg 14 _ rfl (wanted_go 66 rfl rfl) kQ rfl hF (hS.keep sQ zQ) (q_idx_sl ty26 ty24 hzq rfl rfl (by omega)) ?_
   clear hF; intro a hF
   refine goW_takeg 15 _ rfl (wanted_go 66 rfl rfl) kQ rfl hF (hS.keep sQ zQ) (q_ld_Y ty24 hzq (.inr (by simp)) rfl rfl (by omega)) ?_
   clear hF; intro a hF
   refine goW_takeg 17 _ rfl (wanted_go 66 rfl rfl) kQ rfl hF (hS.keep sQ zQ) (q_move rfl) ?_
   clear hF; intro a hF
   refine goW_fork [16] kQ rfl ⟨?_, trivial⟩
   refine stepW_efg _ rfl (wanted_go 66 rfl rfl) rfl hF hS rfl (ef_call fn16 rfl (fun w hS => enc_ct (QF.getD (i : Int).toNat Lg.f0) hqi.1 hqi.2 w )) ?_
   clear hF hS; rintro v_7_16 _ _ a w ⟨_, _, rfl, rfl, rfl, rfl⟩ hF hS
   refine ⟨⟨.inr (hS.keep sQ zQ), iQ, iQ, .inr (hS.keep sQ zQ), .inr (hS.keep sQ zQ), iQ, iQ, iQ, iQ, .inr (hS.keep sQ zQ), .inr (hS.keep sQ zQ), iQ, iQ, .inr (hS.keep sQ zQ), .inr (hS.keep sQ zQ), trivial⟩, ?_⟩
   refine goW_fork [18] kQ rfl ⟨?_, trivial⟩
   refine stepW_efg _ rfl (wanted_go 66 rfl rfl) rfl hF hS rfl (ef_qt (q_call fn15 rfl (fun w hS => same_ct _ _ _ _ w (own_slV (hS.own _ (List.mem_of_getElem? (i := 0) rfl)).1 (by first | assumption | (simp; done)) (by first | rfl | (simp; done) | (simp; omega) | omega) (by first | omega | (simp; omega))) (own_slV (hS.own _ (List.mem_of_getElem? (i := 1) rfl)).1 (by first | assumption | (simp; done)) (by first | rfl | (simp; done) | (simp; omega) | omega) (by first | omega | (simp; omega)))) (fun _ _ _ h => h))) ?_
   clear hF hS; rintro _ _ _ a w ⟨rfl, rfl, rfl⟩ hF hS
   refine ⟨⟨iQ, iQ, iQ, .inr (hS.keep sQ zQ), .inr (hS.keep sQ zQ), iQ, iQ, iQ, iQ, .inr (hS.keep sQ zQ), .inr (hS.keep sQ zQ), iQ, iQ, .inr (hS.keep sQ zQ), .inr (hS.keep sQ zQ), trivial⟩, ?_⟩
   refine goW_takeg 19 _ rfl (wanted_go 66 rfl rfl) kQ rfl hF (hS.keep sQ zQ) (q_nf (q_not rfl) (by simp)) ?_
   clear hF; intro a hF
   refine goW_take 20 _ rfl kQ rfl hF (hS.keep sQ zQ) (q_pick_f rfl rfl) ?_
   clear hF; intro a hF
   exact goW_done kQ (j1_mk v_7_16 (trivial) (hF.sub (L' := [(2, _), (3, _), (4, _), (13, _), (14, _), (15, _), (16, _), (75, _)]) ⟨rfl, rfl, rfl, rfl, rfl, rfl, rfl, rfl, trivial⟩) hS)
  rintro a w ⟨v_7_16, -, hF, hS⟩
  (try dsimp only at hF); (try dsimp only at hS)
  refine hK11 _ _ ?_
  clear hK11
  refine wp_if hF rfl (fun h => absurd h (by simp)) (fun _ => ?_)
  refine wp_skip ?_
  refine hK10 _ _ ?_
  clear hK10
  refine wp_seq_k ?_; intro K12 hK12
  refine regl ?_
  refine wpl_sq hF hS (sq rfl (q_move rfl) <|
    sq rfl (q_move rfl) <|
    sq rfl (q_move rfl) <|
    sq_end) ?_
  clear hF hS; intro a w hF hS
  refine wpl_ef hF hS rfl (ef_call fn17 rfl (fun w hS => bent_ct _ _ _ _ hh hy (by omega) w (own_slV (hS.own _ (List.mem_of_getElem? (i := 1) rfl)).1 (by first | assumption | (simp; done)) (by first | rfl | (simp; done) | (simp; omega) | omega) (by first | omega | (simp; omega))))) ?_
  clear hF hS; rintro v7 _ _ a w ⟨_, _, rfl, rfl, ⟨q8, z9, rfl, rfl, hz10, hl11⟩⟩ hF hS
  replace hS : St _ [_, _, _] [_, _, _, _, _, _, _] _ := hS
  refine wpl_sq hF hS (sq rfl (q_assign rfl) <|
    sq_end) ?_
  clear hF hS; intro a w hF hS
  refine wpList_nil ?_
  refine hK12 _ _ ?_
  clear hK12
  refine regl ?_
  refine wpl_sq hF hS (sq rfl (q_move rfl) <|
    sq rfl (q_move rfl) <|
    sq rfl (q_move rfl) <|
    sq rfl (q_move rfl) <|
    sq rfl (q_move rfl) <|
    sq rfl (q_move rfl) <|
    sq rfl (q_quoi' rfl rfl (by omega)) <|
    sq_end) ?_
  clear hF hS; intro a w hF hS
  refine wpl_ef hF hS rfl (ef_call fn17 rfl (fun w hS => bent_ct _ _ _ _ ha htd (by omega) w (Sl.mono (hS.le (.inr (by simp))) hz10))) ?_
  clear hF hS; rintro v12 _ _ a w ⟨_, _, rfl, rfl, ⟨q13, z14, rfl, rfl, hz15, hl16⟩⟩ hF hS
  replace hS : St _ [_, _, _, _] [_, _, _, _, _, _, _] _ := hS
  have hoc19 := (oc_cons (row_one (hS.own _ (List.mem_of_getElem? (i := 1) rfl)).1) (oc_cons (sl_one' hz10) (oc_cons (sl_one' hz15) oc_nil)))
  refine wpl_ef hF hS rfl (ef_bsliceA ty29 ty25 rfl rfl (oc_cons (row_one (hS.own _ (List.mem_of_getElem? (i := 1) rfl)).1) (oc_cons (sl_one' hz10) (oc_cons (sl_one' hz15) oc_nil))) (by decide) rfl rfl) ?_
  clear hF hS; rintro v17 _ _ a w ⟨rfl, rfl⟩ hF hS
  replace hS : St _ [_, _, _, _] [_, _, _, _, _, _, _, _] _ := hS
  refine wpl_ef hF hS rfl (ef_append ty29 ty25 3 rfl rfl rfl (src_row ty29 (k := 0) rfl hoc19) bQ rfl (by decide)) ?_
  clear hF hS; rintro v20 _ _ a w ⟨rfl, rfl⟩ hF hS
  replace hS : St _ [_, _, _, _] [_, _, _, _, _, _, _, _] _ := hS
  refine wpl_sq hF hS (sq rfl (q_assign rfl) <|
    sq_end) ?_
  clear hF hS; intro a w hF hS
  refine wpList_nil ?_
  refine hK8 _ _ ?_
  clear hK8
  refine reg hF hS (sq rfl (q_move rfl) <|
    sq rfl (q_addi rfl rfl (by omega)) <|
    sq rfl (q_assign rfl) <|
    sq_end) ?_
  clear hF hS; intro a w hF hS
  replace hS := hS.perm (.cons _ (.swap _ _ _))
  replace hS := hS.perm (.swap _ _ _)
  obtain ⟨zb, hzb, hS⟩ := St.freezeB (xs := Lg.enc (QF.getD i Lg.f0)) (by rw [Int.toNat_natCast] at hS; exact hS) rfl (by omega)
  obtain ⟨zu, hzu, hS⟩ := hS.union
  replace hS := hS.keep (sQ.n.n.n.n.k) (sQ.n.n)
  refine ⟨(v20, zu, (vl ++ [v5, v7, v12]), i + 1), ?_, ?_, hF.sub ⟨rfl, rfl, rfl, rfl, rfl, rfl, trivial⟩, ?_⟩
  ·(try dsimp only); omega
  ·exact ⟨⟨by omega, by rw [List.length_append]; show vl.length + 3 ≤ _; omega⟩, (hrw2.mono (hzu z (by simp))).app (Rws.cons (.inr (hzb.mono (hzu zb (by simp)))) (Rws.cons (.inr (Sl.mono (hzu _ (by simp)) hz10)) (Rws.cons (.inr (Sl.mono (hzu _ (by simp)) hz15)) Rws.nil)))⟩
  ·dsimp only; rw [List.length_append]; exact hS
 ·refine wp_exit ?_
  refine hK4 _ _ ?_
  clear hK4
  refine wp_seq_k ?_; intro K13 hK13
  refine wp_seq_k ?_; intro K14 hK14
  refine reg hF hS (sq rfl (q_assign rfl) <|
    sq_end) ?_
  clear hF hS; intro a w hF hS
  refine hK14 _ _ ?_
  clear hK14
  refine wp_block ?_
  obtain ⟨hs0, hhs0, hS⟩ : ∃ h, h = _ ∧ St _ _ h _ := ⟨_, rfl, hS⟩
  refine wp_loopx (γ := Nat) (0) (fun (k : Nat) => [(18, vi (k : Int))]) [(14, _)] (fun (k : Nat) => hs0) (fun (k : Nat) => k ≤ vl.length) (fun (k : Nat) => vl.length - k) (hF.sub ⟨rfl, rfl, trivial⟩) (by subst hhs0; exact hS) (by exact Nat.zero_le _) ?_
  clear hF hS; rintro k a w hfact hF hS
  subst hhs0; (try dsimp only at hfact); (try dsimp only at hF); (try dsimp only at hS)
  have hk0 := hfact
  replace hS : St _ [_, _] [_, _, _, _, _] _ := hS
  refine wp_seq_k ?_; intro K15 hK15
  refine wp_seq_k ?_; intro K16 hK16
  refine reg hF hS (sq rfl (q_move rfl) <|
    sq rfl (q_move rfl) <|
    sq rfl (q_len_row ty29 0 rfl rfl) <|
    sq rfl (q_lti rfl rfl) <|
    sq_end) ?_
  clear hF hS; intro a w hF hS
  refine hK16 _ _ ?_
  clear hK16
  refine wp_ifd hF rfl (fun hc3 => ?_) (fun hc3 => ?_)
  ·obtain ⟨x9, z9, hz9, hx9⟩ := hrw2.at_ (k := (k : Int).toNat) (by omega)
   refine wp_skip ?_
   refine hK15 _ _ ?_
   clear hK15
   refine wp_seq_k ?_; intro K17 hK17
   refine wp_block ?_
   refine wp_seq_k ?_; intro K18 hK18
   refine regl ?_
   refine wpl_sq hF hS (sq rfl (q_move rfl) <|
     sq rfl (q_move rfl) <|
     sq rfl (q_idx_row ty29 ty25 0 rfl rfl rfl (by omega)) <|
     sq rfl (q_ld_rowV ty25 0 rfl rfl (by omega) rfl) <|
     sq rfl (q_call fn18 rfl (fun w hS => dec_ct _ _ w (Sl.mono (hS.le (hz9.elim (fun h => .inl (h.trans hz0e)) (fun h => .inr (by rw [h]; simp)))) hx9)) (fun _ _ _ h => h)) <|
     sq rfl (q_move rfl) <|
     sq rfl (q_extract rfl rfl) <|
     sq rfl (q_extract rfl rfl) <|
     sq_end) ?_
   clear hF hS; intro a w hF hS
   refine wpl_ef hF hS rfl (ef_allocA ty24) ?_
   clear hF hS; rintro _ _ _ a w ⟨b21, rfl, rfl, rfl⟩ hF hS
   refine wpl_ef hF hS rfl (ef_storeW ty24 0 rfl rfl rfl rfl bQ (oc_cons rfl (oc_cons rfl (oc_cons rfl oc_nil))) bQ) ?_
   clear hF hS; rintro _ _ _ a w ⟨rfl, rfl, rfl⟩ hF hS
   replace hS : St _ [_, _] [_, _, _, _, _, _] _ := hS
   refine wpl_sq hF hS (sq rfl (q_assign rfl) <|
     sq_end) ?_
   clear hF hS; intro a w hF hS
   refine wpList_nil ?_
   refine hK18 _ _ ?_
   clear hK18
   refine wp_seq_k ?_; intro K19 hK19
   refine regl ?_
   refine wpl_sq hF hS (sq rfl (q_move rfl) <|
     sq rfl (q_move rfl) <|
     sq rfl (q_idx_row ty29 ty25 1 rfl rfl rfl (by omega)) <|
     sq rfl (q_ld_rowV ty25 1 rfl rfl (by omega) rfl) <|
     sq rfl (q_call fn19 rfl (fun w hS => rdec_ct _ _ w (Sl.mono (hS.le (hz9.elim (fun h => .inl (h.trans hz0e)) (fun h => .inr (by rw [h]; simp)))) hx9)) (fun _ _ _ h => h)) <|
     sq rfl (q_move rfl) <|
     sq rfl (q_extract rfl rfl) <|
     sq rfl (q_extract rfl rfl) <|
     sq_end) ?_
   clear hF hS; intro a w hF hS
   refine wpl_ef hF hS rfl (ef_allocA ty24) ?_
   clear hF hS; rintro _ _ _ a w ⟨b22, rfl, rfl, rfl⟩ hF hS
   refine wpl_ef hF hS rfl (ef_storeW ty24 0 rfl rfl rfl rfl bQ (oc_cons rfl (oc_cons rfl (oc_cons rfl oc_nil))) bQ) ?_
   clear hF hS; rintro _ _ _ a w ⟨rfl, rfl, rfl⟩ hF hS
   replace hS : St _ [_, _] [_, _, _, _, _, _, _] _ := hS
   refine wpl_sq hF hS (sq rfl (q_assign rfl) <|
     sq_end) ?_
   clear hF hS; intro a w hF hS
   refine wpList_nil ?_
   refine hK19 _ _ ?_
   clear hK19
   refine wp_seq_k ?_; intro K20 hK20
   refine reg hF hS (sq rfl (q_ld_blkW ty24 1 rfl rfl bQ rfl) <|
     sq rfl (q_ld_blkW ty24 0 rfl rfl bQ rfl) <|
     sq rfl (q_nf (q_neFc ty24 ty3 ty9 ⟨rfl, rfl, by decide⟩ ⟨rfl, rfl, by decide⟩ ⟨rfl, rfl, by decide⟩ kQ kQ rfl rfl) (by simp)) <|
     sq rfl (q_move rfl) <|
     sq_go 115 rfl rfl rfl (q_move rfl) <|
     sq_go 115 rfl rfl rfl (q_move rfl) <|
     sq_go 115 rfl rfl rfl (q_nf (q_nei rfl rfl) (by simp)) <|
     sq rfl (q_pick_f rfl rfl) <|
     sq_end) ?_
   clear hF hS; intro a w hF hS
   refine hK20 _ _ ?_
   clear hK20
   refine wp_if hF rfl (fun h => absurd h (by simp)) (fun _ => ?_)
   refine wp_skip ?_
   refine hK17 _ _ ?_
   clear hK17
   refine reg hF hS (sq rfl (q_move rfl) <|
     sq rfl (q_addi rfl rfl (by omega)) <|
     sq rfl (q_assign rfl) <|
     sq_end) ?_
   clear hF hS; intro a w hF hS
   replace hS := hS.keep sQ (sQ.n.n)
   refine ⟨(k + 1), ?_, ?_, hF.sub ⟨rfl, rfl, trivial⟩, ?_⟩
   ·(try dsimp only); omega
   ·omega
   ·exact hS
  ·refine wp_exit ?_
   refine hK13 _ _ ?_
   clear hK13
   refine wp_seq_k ?_; intro K21 hK21
   refine reg hF hS (sq rfl (q_call fn20 rfl (fun w hS => lives41_ct w (hS.ext _ _ hg0)) (fun _ _ _ h => h)) <|
     sq rfl (q_assign rfl) <|
     sq_end) ?_
   clear hF hS; intro a w hF hS
   refine hK21 _ _ ?_
   clear hK21
   refine wp_ret ?_
   exact fn_ret (rs := [.tmp 12]) rfl hF hS (vs := [_]) ⟨rfl, trivial⟩ zQ zQ (rfl)
end Go.Proofs.YtngcjojijaknnaaGreatDoor
