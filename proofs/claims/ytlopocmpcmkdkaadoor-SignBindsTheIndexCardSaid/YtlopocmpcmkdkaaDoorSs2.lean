/- A text of a proof over this seat: walks over the program's functions and the plain laws that they need. -/
import Derived.Test.YtlopocmpcmkdkaaDoorSs1
import Derived.Test.YtlopocmpcmkdkaaDoorSiA
import Derived.Test.YtlopocmpcmkdkaaDoorFwB
import Derived.Test.YtlopocmpcmkdkaaDoorFwD
set_option linter.all false
namespace Go.Proofs.YtlopocmpcmkdkaaDoor
open Go.Fw
theorem fn42 : FnOk Tryd.prog 42 := ⟨_, Tryd.func42, rfl, by kernel_rfl⟩
theorem fn48 : FnOk Tryd.prog 48 := ⟨_, Tryd.func48, rfl, by kernel_rfl⟩
theorem fn49 : FnOk Tryd.prog 49 := ⟨_, Tryd.func49, rfl, by kernel_rfl⟩
theorem fn50 : FnOk Tryd.prog 50 := ⟨_, Tryd.func50, rfl, by kernel_rfl⟩
attribute [local irreducible] Sha.sum Sha.mac Sha.ofD Wi.int Wi.ints Wi.bytes Sha.inp

set_option maxRecDepth 4000 in
set_option maxHeartbeats 2000000 in
theorem sstart_ct (s : List UInt8) (i c : Int) (hs9 : s.length < 1048576) (hi9 : -9223372036854775808 ≤ i ∧ i ≤ 9223372036854775807) (hc9 : -9223372036854775808 ≤ c ∧ c ≤ 9223372036854775807) (w : World) {fz1 : Nat × Nat} {bt1 : TypeId} (hg1 : w.heap[1]? = some (.cells (Sha.kc.map vw).toArray bt1 fz1)) : Ct Tryd.prog 28 [vs s, vi i, vi c] w (fun r _ _ => r = .agg ((Si.start s i c).map vb).toArray) := by
 refine fn_enter Tryd.func28 rfl Tryd.ntmps28 (Nat.le_of_ble_eq_true rfl) fun a hF hS => ?_
 have hil := Si.ints_len2 i c
 have hml := Sha.mac_len s ([99, 104, 97, 105, 110] ++ Wi.ints [i, c])
 have hcl : ([99, 104, 97, 105, 110] ++ Wi.ints [i, c]).length ≤ 105 := by simp; omega
 have htk : (List.take (Int.toNat 16) (Sha.mac s ([99, 104, 97, 105, 110] ++ Wi.ints [i, c]))).length = 16 := by rw [List.length_take, hml]; rfl
 have htk2 : (List.take 16 (Sha.mac s ([99, 104, 97, 105, 110] ++ Wi.ints [i, c]))).length = 16 := by rw [List.length_take, hml]; rfl
 refine wp_seq_k ?_; intro K1 hK1
 refine regl ?_
 refine wpl_ef hF hS rfl (ef_allocA ty23) ?_
 clear hF hS; rintro _ _ _ a w ⟨b1, rfl, rfl, rfl⟩ hF hS
 rw [show List.replicate 16 (Value.int .u8 0) = (List.replicate 16 (0 : UInt8)).map vb from by rw [List.map_replicate] <;> rfl] at hS
 refine wpList_nil ?_
 refine hK1 _ _ ?_
 clear hK1
 refine wp_seq_k ?_; intro K2 hK2
 refine regl ?_
 refine wpl_sq hF hS (sq rfl (q_move rfl) <|
   sq rfl (q_move rfl) <|
   sq rfl (q_move rfl) <|
   sq_end) ?_
 clear hF hS; intro a w hF hS
 refine wpl_ef hF hS rfl (ef_bsliceA ty25 ty3 rfl rfl oQ (by decide) rfl rfl) ?_
 clear hF hS; rintro v2 _ _ a w ⟨rfl, rfl⟩ hF hS
 replace hS : St _ [] [_, _] _ := hS
 refine wpl_sq hF hS (sq rfl (q_call fn48 rfl (fun w hS => sints_ct _ _ (by simp) w (own_slV (f := vi) (xs := [i, c]) (hS.own _ (List.mem_of_getElem? (i := 0) rfl)).1 (by simp; omega) rfl (by decide))) (fun _ _ _ h => h)) <|
   sq rfl (q_adds (p := [99, 104, 97, 105, 110]) rfl rfl bQ) <|
   sq rfl (q_call fn49 rfl (fun w hS => mac_ct _ _ (by first | assumption | omega) (by first | assumption | omega) w (hS.ext _ _ hg1)) (fun _ _ _ h => h)) <|
   sq rfl (q_sl_s_hi ty9 rfl rfl (by omega)) <|
   sq_end) ?_
 clear hF hS; intro a w hF hS
 refine wpl_ef hF hS rfl (ef_s2b ty9 ty52 ty5 rfl (by omega)) ?_
 clear hF hS; rintro v4 _ _ a w ⟨z5, rfl, rfl, hz6⟩ hF hS
 refine wpl_sq hF hS (sq rfl (q_s2ap_sl ty23 hz6 rfl bQ (by decide)) <|
   sq rfl (q_ld_B16 ty23 hz6 (.inr (by simp)) rfl rfl bQ (by decide)) <|
   sq_end) ?_
 clear hF hS; intro a w hF hS
 refine wpl_ef hF hS rfl (ef_storeW ty23 1 rfl rfl rfl rfl bQ oQ bQ) ?_
 clear hF hS; rintro _ _ _ a w ⟨rfl, rfl, rfl⟩ hF hS
 replace hS : St _ [_] [_, _] _ := hS
 refine wpList_nil ?_
 refine hK2 _ _ ?_
 clear hK2
 refine wp_ret ?_
 exact fn_ret (rs := [.cell 6 23]) rfl hF hS (vs := [_]) ⟨⟨_, _, _, _, _, _, _, rfl, List.mem_of_getElem? (i := 1) rfl, ty23, .inl ⟨rfl, bQ, rfl⟩⟩, trivial⟩ zQ zQ (rfl)

set_option maxRecDepth 4000 in
set_option maxHeartbeats 2000000 in
theorem sadv_ct (i c f t : Int) (v : List UInt8) (hv9 : v.length = 16) (hi9 : -9223372036854775808 ≤ i ∧ i ≤ 9223372036854775807) (hc9 : -9223372036854775808 ≤ c ∧ c ≤ 9223372036854775807) (hf9 : -9223372036854775808 ≤ f ∧ f ≤ 9223372036854775807) (ht9 : -9223372036854775808 ≤ t ∧ t ≤ 9223372036854775807) (w : World) {fz1 : Nat × Nat} {bt1 : TypeId} (hg1 : w.heap[1]? = some (.cells (Sha.kc.map vw).toArray bt1 fz1)) : Ct Tryd.prog 27 [vi i, vi c, vi f, vi t, .agg ((v).map vb).toArray] w (fun r _ _ => r = .agg ((Si.advT i c f t v).map vb).toArray) := by
 refine fn_enter Tryd.func27 rfl Tryd.ntmps27 (Nat.le_of_ble_eq_true rfl) fun a hF hS => ?_
 refine wp_seq_k ?_; intro K1 hK1
 refine regl ?_
 refine wpl_ef hF hS rfl (ef_boxA rfl) ?_
 clear hF hS; rintro _ _ _ a w ⟨b1, rfl, rfl, rfl⟩ hF hS
 refine wpl_ef hF hS rfl (ef_allocA ty23) ?_
 clear hF hS; rintro _ _ _ a w ⟨b2, rfl, rfl, rfl⟩ hF hS
 rw [show List.replicate 16 (Value.int .u8 0) = (List.replicate 16 (0 : UInt8)).map vb from by rw [List.map_replicate] <;> rfl] at hS
 refine wpList_nil ?_
 refine hK1 _ _ ?_
 clear hK1
 refine wp_seq_k ?_; intro K2 hK2
 refine wp_seq_k ?_; intro K3 hK3
 refine reg hF hS (sq rfl (q_move rfl) <|
   sq rfl (q_assign rfl) <|
   sq_end) ?_
 clear hF hS; intro a w hF hS
 refine hK3 _ _ ?_
 clear hK3
 refine wp_block ?_
 obtain ⟨hs0, hhs0, hS⟩ : ∃ h, h = _ ∧ St _ _ h _ := ⟨_, rfl, hS⟩
 refine wp_loopx (γ := Int) (f) (fun (k : Int) => [(11, vi k)]) [(0, _), (1, _), (3, _), (9, _), (10, _)] (fun (k : Int) => (hs0.set 1 (.blk b1 23 ((Si.adv i c f v (k - f).toNat).map vb)))) (fun (k : Int) => f ≤ k ∧ (k ≤ t ∨ k = f)) (fun (k : Int) => (t - k).toNat) (hF.sub ⟨rfl, rfl, rfl, rfl, rfl, rfl, trivial⟩) (by subst hhs0; (try dsimp only); rw [show (f - f).toNat = 0 by omega]; exact hS) (by exact ⟨Int.le_refl _, .inr rfl⟩) ?_
 clear hF hS; rintro k a w hfact hF hS
 subst hhs0; (try dsimp only at hfact); (try dsimp only at hF); (try dsimp only at hS)
 obtain ⟨hk0, hk1⟩ := hfact
 replace hS : St _ [] [_, _] _ := hS
 have hal := Si.adv_16 (i := i) (c := c) (a := f) hv9 (k - f).toNat
 have hil := Si.ints_len3 i c k
 have hol := Sha.ofD_len 1 [Wi.ints [i, c, k], (Si.adv i c f v (k - f).toNat)]
 refine wp_seq_k ?_; intro K4 hK4
 refine wp_seq_k ?_; intro K5 hK5
 refine reg hF hS (sq rfl (q_move rfl) <|
   sq rfl (q_move rfl) <|
   sq rfl (q_lti rfl rfl) <|
   sq_end) ?_
 clear hF hS; intro a w hF hS
 refine hK5 _ _ ?_
 clear hK5
 refine wp_ifd hF rfl (fun hc1 => ?_) (fun hc1 => ?_)
 ·refine wp_skip ?_
  refine hK4 _ _ ?_
  clear hK4
  refine wp_seq_k ?_; intro K6 hK6
  refine wp_block ?_
  revert hS; revert hF; apply regJ (J := J2 (α0 := Value) (α1 := Value) 28 _ _ _ _ _) #[false, false, false, false, false, false, false, false, false, false] 10 mixed rfl rfl
  ·intro w hF hS
   refine goW_take 0 _ rfl kQ rfl hF (hS.keep sQ zQ) (q_move rfl) ?_
   clear hF; intro a hF
   refine goW_take 1 _ rfl kQ rfl hF (hS.keep sQ zQ) (q_move rfl) ?_
   clear hF; intro a hF
   refine goW_take 2 _ rfl kQ rfl hF (hS.keep sQ zQ) (q_move rfl) ?_
   clear hF; intro a hF
   refine goW_take 5 _ rfl kQ rfl hF (hS.keep sQ (sQ.n)) (q_sla ty23 ty5 rfl) ?_
   clear hF; intro a hF
   refine goW_take 6 _ rfl kQ rfl hF (hS.keep sQ (sQ.n)) (q_b2s_blkM ty52 ty9 ty5 0 rfl rfl bQ) ?_
   clear hF; intro a hF
   refine gQ 3 rfl rfl hF hS rfl (ef_bsliceA ty25 ty3 rfl rfl oQ (by decide) rfl rfl) ?_
   clear hF hS; rintro v_4_3 _ _ a w ⟨rfl, rfl⟩ hF hS
   refine ⟨⟨.inr (hS.k1 (sQ.n.n)), .inr (hS.k1 (sQ.n.n)), iQ, iQ, iQ, trivial⟩, ?_⟩
   refine gQ 4 rfl rfl hF hS rfl (ef_qt (q_call fn48 rfl (fun w hS => sints_ct _ _ (by simp) w (own_slV (f := vi) (xs := [i, c, k]) (hS.own _ (List.mem_of_getElem? (i := 0) rfl)).1 (by simp; omega) rfl (by decide))) (fun _ _ _ h => h))) ?_
   clear hF hS; rintro _ _ _ a w ⟨rfl, rfl, rfl⟩ hF hS
   refine ⟨⟨.inr (hS.k1 (sQ.n.n)), .inr (hS.k1 (sQ.n.n)), iQ, iQ, iQ, trivial⟩, ?_⟩
   refine gQ 7 rfl rfl hF hS rfl (ef_bsliceA ty66 ty9 rfl rfl oQ (by decide) rfl rfl) ?_
   clear hF hS; rintro v_4_7 _ _ a w ⟨rfl, rfl⟩ hF hS
   refine ⟨⟨iQ, iQ, iQ, iQ, iQ, trivial⟩, ?_⟩
   refine gQ 8 rfl rfl hF hS rfl (ef_qt (q_call fn34 rfl (fun w hS => of_ct _ _ _ (by simp; omega) (by simp) w (own_slV (f := vs) (xs := [Wi.ints [i, c, k], (Si.adv i c f v (k - f).toNat)]) (hS.own _ (List.mem_of_getElem? (i := 0) rfl)).1 (by simp; omega) rfl (by decide)) (hS.ext _ _ hg1)) (fun _ _ _ h => h))) ?_
   clear hF hS; rintro _ _ _ a w ⟨rfl, rfl, rfl⟩ hF hS
   refine ⟨⟨iQ, iQ, iQ, iQ, iQ, trivial⟩, ?_⟩
   refine gQ 9 rfl rfl hF hS rfl (ef_storeW ty23 3 rfl rfl rfl rfl bQ oQ bQ) ?_
   clear hF hS; rintro _ _ _ a w ⟨rfl, rfl, rfl⟩ hF hS
   refine ⟨⟨iQ, iQ, iQ, iQ, iQ, trivial⟩, ?_⟩
   exact goW_done kQ (j2_mk v_4_3 v_4_7 (trivial) (hF.sub (L' := [(0, _), (1, _), (3, _), (9, _), (10, _), (11, _)]) ⟨rfl, rfl, rfl, rfl, rfl, rfl, trivial⟩) hS)
  rintro a w ⟨v_4_3, v_4_7, -, hF, hS⟩
  (try dsimp only at hF); (try dsimp only at hS)
  refine hK6 _ _ ?_
  clear hK6
  refine reg hF hS (sq rfl (q_move rfl) <|
    sq rfl (q_addi rfl rfl (by omega)) <|
    sq rfl (q_assign rfl) <|
    sq_end) ?_
  clear hF hS; intro a w hF hS
  replace hS := hS.keep zQ (sQ.n.n)
  refine ⟨(k + 1), ?_, ?_, hF.sub ⟨rfl, rfl, rfl, rfl, rfl, rfl, trivial⟩, ?_⟩
  ·(try dsimp only); omega
  ·exact ⟨by omega, .inl (by omega)⟩
  ·(try dsimp only); rw [Si.adv_next hk0]; exact hS
 ·have hal := Si.adv_16 (i := i) (c := c) (a := f) hv9 (k - f).toNat
  have hke : (k - f).toNat = (t - f).toNat := by omega
  refine wp_exit ?_
  refine hK2 _ _ ?_
  clear hK2
  refine wp_seq_k ?_; intro K7 hK7
  refine regl ?_
  refine wpl_sq hF hS (sq rfl (q_ld_blkW ty23 1 rfl rfl bQ rfl) <|
    sq_end) ?_
  clear hF hS; intro a w hF hS
  refine wpl_ef hF hS rfl (ef_storeW ty23 0 rfl rfl rfl rfl bQ oQ bQ) ?_
  clear hF hS; rintro _ _ _ a w ⟨rfl, rfl, rfl⟩ hF hS
  replace hS : St _ [] [_, _] _ := hS
  refine wpList_nil ?_
  refine hK7 _ _ ?_
  clear hK7
  refine wp_ret ?_
  exact fn_ret (rs := [.cell 10 23]) rfl hF hS (vs := [_]) ⟨⟨_, _, _, _, _, _, _, rfl, List.mem_of_getElem? (i := 0) rfl, ty23, .inl ⟨rfl, bQ, rfl⟩⟩, trivial⟩ zQ zQ (by unfold Si.advT; rw [hke])

set_option maxRecDepth 4000 in
set_option maxHeartbeats 2000000 in
theorem sradv_ct (i c f t : Int) (v : List UInt8) (hv9 : v.length = 16) (hi9 : -9223372036854775808 ≤ i ∧ i ≤ 9223372036854775807) (hc9 : -9223372036854775808 ≤ c ∧ c ≤ 9223372036854775807) (hf9 : -9223372036854775808 ≤ f ∧ f ≤ 9223372036854775807) (ht9 : -9223372036854775808 ≤ t ∧ t ≤ 9223372036854775807) (w : World) {fz0 : Nat × Nat} {bt0 : TypeId} (hg0 : w.heap[0]? = some (.cells (Sha.kc.map vw).toArray bt0 fz0)) : Ct Tryd.prog 32 [vi i, vi c, vi f, vi t, .agg ((v).map vb).toArray] w (fun r _ _ => r = .agg ((Si.advT i c f t v).map vb).toArray) := by
 refine fn_enter Tryd.func32 rfl Tryd.ntmps32 (Nat.le_of_ble_eq_true rfl) fun a hF hS => ?_
 refine wp_seq_k ?_; intro K1 hK1
 refine regl ?_
 refine wpl_ef hF hS rfl (ef_boxA rfl) ?_
 clear hF hS; rintro _ _ _ a w ⟨b1, rfl, rfl, rfl⟩ hF hS
 refine wpl_ef hF hS rfl (ef_allocA ty23) ?_
 clear hF hS; rintro _ _ _ a w ⟨b2, rfl, rfl, rfl⟩ hF hS
 rw [show List.replicate 16 (Value.int .u8 0) = (List.replicate 16 (0 : UInt8)).map vb from by rw [List.map_replicate] <;> rfl] at hS
 refine wpList_nil ?_
 refine hK1 _ _ ?_
 clear hK1
 refine wp_seq_k ?_; intro K2 hK2
 refine wp_seq_k ?_; intro K3 hK3
 refine reg hF hS (sq rfl (q_move rfl) <|
   sq rfl (q_assign rfl) <|
   sq_end) ?_
 clear hF hS; intro a w hF hS
 refine hK3 _ _ ?_
 clear hK3
 refine wp_block ?_
 obtain ⟨hs0, hhs0, hS⟩ : ∃ h, h = _ ∧ St _ _ h _ := ⟨_, rfl, hS⟩
 refine wp_loopx (γ := Int) (f) (fun (k : Int) => [(11, vi k)]) [(0, _), (1, _), (3, _), (9, _), (10, _)] (fun (k : Int) => (hs0.set 1 (.blk b1 23 ((Si.adv i c f v (k - f).toNat).map vb)))) (fun (k : Int) => f ≤ k ∧ (k ≤ t ∨ k = f)) (fun (k : Int) => (t - k).toNat) (hF.sub ⟨rfl, rfl, rfl, rfl, rfl, rfl, trivial⟩) (by subst hhs0; (try dsimp only); rw [show (f - f).toNat = 0 by omega]; exact hS) (by exact ⟨Int.le_refl _, .inr rfl⟩) ?_
 clear hF hS; rintro k a w hfact hF hS
 subst hhs0; (try dsimp only at hfact); (try dsimp only at hF); (try dsimp only at hS)
 obtain ⟨hk0, hk1⟩ := hfact
 replace hS : St _ [] [_, _] _ := hS
 have hal := Si.adv_16 (i := i) (c := c) (a := f) hv9 (k - f).toNat
 have hil := Si.ints_len3 i c k
 have hol := Sha.ofD_len 1 [Wi.ints [i, c, k], (Si.adv i c f v (k - f).toNat)]
 refine wp_seq_k ?_; intro K4 hK4
 refine wp_seq_k ?_; intro K5 hK5
 refine reg hF hS (sq rfl (q_move rfl) <|
   sq rfl (q_move rfl) <|
   sq rfl (q_lti rfl rfl) <|
   sq_end) ?_
 clear hF hS; intro a w hF hS
 refine hK5 _ _ ?_
 clear hK5
 refine wp_ifd hF rfl (fun hc1 => ?_) (fun hc1 => ?_)
 ·refine wp_skip ?_
  refine hK4 _ _ ?_
  clear hK4
  refine wp_seq_k ?_; intro K6 hK6
  refine wp_block ?_
  revert hS; revert hF; apply regJ (J := J2 (α0 := Value) (α1 := Value) 28 _ _ _ _ _) #[false, false, false, false, false, false, false, false, false, false] 10 mixed rfl rfl
  ·intro w hF hS
   refine goW_take 0 _ rfl kQ rfl hF (hS.keep sQ zQ) (q_move rfl) ?_
   clear hF; intro a hF
   refine goW_take 1 _ rfl kQ rfl hF (hS.keep sQ zQ) (q_move rfl) ?_
   clear hF; intro a hF
   refine goW_take 2 _ rfl kQ rfl hF (hS.keep sQ zQ) (q_move rfl) ?_
   clear hF; intro a hF
   refine goW_take 5 _ rfl kQ rfl hF (hS.keep sQ (sQ.n)) (q_ld_blkW ty23 0 rfl rfl bQ rfl) ?_
   clear hF; intro a hF
   refine gQ 3 rfl rfl hF hS rfl (ef_bsliceA ty25 ty3 rfl rfl oQ (by decide) rfl rfl) ?_
   clear hF hS; rintro v_4_3 _ _ a w ⟨rfl, rfl⟩ hF hS
   refine ⟨⟨.inr (hS.k1 (sQ.n.n)), iQ, iQ, iQ, trivial⟩, ?_⟩
   refine gQ 4 rfl rfl hF hS rfl (ef_qt (q_call fn50 rfl (fun w hS => srints_ct _ _ (by simp) w (own_slV (f := vi) (xs := [i, c, k]) (hS.own _ (List.mem_of_getElem? (i := 0) rfl)).1 (by simp; omega) rfl (by decide))) (fun _ _ _ h => h))) ?_
   clear hF hS; rintro _ _ _ a w ⟨rfl, rfl, rfl⟩ hF hS
   refine ⟨⟨.inr (hS.k1 (sQ.n.n)), iQ, iQ, iQ, trivial⟩, ?_⟩
   refine gQ 6 rfl rfl hF hS rfl (ef_qt (q_call fn31 rfl (fun w hS => rtext_ct _ (by first | with_reducible assumption | omega | (simp; omega)) w ) (fun _ _ _ h => h))) ?_
   clear hF hS; rintro _ _ _ a w ⟨rfl, rfl, rfl⟩ hF hS
   refine ⟨⟨iQ, iQ, iQ, iQ, trivial⟩, ?_⟩
   refine gQ 7 rfl rfl hF hS rfl (ef_bsliceA ty66 ty9 rfl rfl oQ (by decide) rfl rfl) ?_
   clear hF hS; rintro v_4_7 _ _ a w ⟨rfl, rfl⟩ hF hS
   refine ⟨⟨iQ, iQ, iQ, iQ, trivial⟩, ?_⟩
   refine gQ 8 rfl rfl hF hS rfl (ef_qt (q_call fn35 rfl (fun w hS => rof_ct _ _ _ (by simp; omega) (by simp) w (own_slV (f := vs) (xs := [Wi.ints [i, c, k], (Si.adv i c f v (k - f).toNat)]) (hS.own _ (List.mem_of_getElem? (i := 0) rfl)).1 (by simp; omega) rfl (by decide)) (hS.ext _ _ hg0)) (fun _ _ _ h => h))) ?_
   clear hF hS; rintro _ _ _ a w ⟨rfl, rfl, rfl⟩ hF hS
   refine ⟨⟨iQ, iQ, iQ, iQ, trivial⟩, ?_⟩
   refine gQ 9 rfl rfl hF hS rfl (ef_storeW ty23 3 rfl rfl rfl rfl bQ oQ bQ) ?_
   clear hF hS; rintro _ _ _ a w ⟨rfl, rfl, rfl⟩ hF hS
   refine ⟨⟨iQ, iQ, iQ, iQ, trivial⟩, ?_⟩
   exact goW_done kQ (j2_mk v_4_3 v_4_7 (trivial) (hF.sub (L' := [(0, _), (1, _), (3, _), (9, _), (10, _), (11, _)]) ⟨rfl, rfl, rfl, rfl, rfl, rfl, trivial⟩) hS)
  rintro a w ⟨v_4_3, v_4_7, -, hF, hS⟩
  (try dsimp only at hF); (try dsimp only at hS)
  refine hK6 _ _ ?_
  clear hK6
  refine reg hF hS (sq rfl (q_move rfl) <|
    sq rfl (q_addi rfl rfl (by omega)) <|
    sq rfl (q_assign rfl) <|
    sq_end) ?_
  clear hF hS; intro a w hF hS
  replace hS := hS.keep zQ (sQ.n.n)
  refine ⟨(k + 1), ?_, ?_, hF.sub ⟨rfl, rfl, rfl, rfl, rfl, rfl, trivial⟩, ?_⟩
  ·(try dsimp only); omega
  ·exact ⟨by omega, .inl (by omega)⟩
  ·(try dsimp only); rw [Si.adv_next hk0]; exact hS
 ·have hal := Si.adv_16 (i := i) (c := c) (a := f) hv9 (k - f).toNat
  have hke : (k - f).toNat = (t - f).toNat := by omega
  refine wp_exit ?_
  refine hK2 _ _ ?_
  clear hK2
  refine wp_seq_k ?_; intro K7 hK7
  refine regl ?_
  refine wpl_sq hF hS (sq rfl (q_ld_blkW ty23 1 rfl rfl bQ rfl) <|
    sq_end) ?_
  clear hF hS; intro a w hF hS
  refine wpl_ef hF hS rfl (ef_storeW ty23 0 rfl rfl rfl rfl bQ oQ bQ) ?_
  clear hF hS; rintro _ _ _ a w ⟨rfl, rfl, rfl⟩ hF hS
  replace hS : St _ [] [_, _] _ := hS
  refine wpList_nil ?_
  refine hK7 _ _ ?_
  clear hK7
  refine wp_ret ?_
  exact fn_ret (rs := [.cell 10 23]) rfl hF hS (vs := [_]) ⟨⟨_, _, _, _, _, _, _, rfl, List.mem_of_getElem? (i := 0) rfl, ty23, .inl ⟨rfl, bQ, rfl⟩⟩, trivial⟩ zQ zQ (by unfold Si.advT; rw [hke])
end Go.Proofs.YtlopocmpcmkdkaaDoor
