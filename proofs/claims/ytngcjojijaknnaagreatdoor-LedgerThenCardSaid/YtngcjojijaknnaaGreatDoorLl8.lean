/- A text of a proof over this seat: walks over the program's functions and the plain laws that they need. -/
import Derived.Test.YtngcjojijaknnaaGreatDoorLl7
import Derived.Test.YtngcjojijaknnaaGreatDoorLgA
import Derived.Test.YtngcjojijaknnaaGreatDoorFwB
set_option linter.all false
namespace Go.Proofs.YtngcjojijaknnaaGreatDoor
open Go.Fw
theorem fn11 : FnOk Tryz.prog 11 := ⟨_, Tryz.func11, rfl, by kernel_rfl⟩
theorem fn22 : FnOk Tryz.prog 22 := ⟨_, Tryz.func22, rfl, by kernel_rfl⟩
theorem fn48 : FnOk Tryz.prog 48 := ⟨_, Tryz.func48, rfl, by kernel_rfl⟩

set_option maxRecDepth 4000 in
set_option maxHeartbeats 2000000 in
theorem arnd_ct (n m : Int) (hm : 1 ≤ m) (hn : -9223372036854775808 ≤ n ∧ n ≤ 9223372036854775807) (w : World) : Ct Tryz.prog 11 [vi n, vi m] w (fun r _ _ => r = vi (Gu.arnd n m)) := by
 refine fn_enter Tryz.func11 rfl Tryz.ntmps11 (Nat.le_of_ble_eq_true rfl) fun a hF hS => ?_
 refine wp_seq_k ?_; intro K1 hK1
 refine reg hF hS (sq rfl (q_assign rfl) <|
   sq_end) ?_
 clear hF hS; intro a w hF hS
 refine hK1 _ _ ?_
 clear hK1
 obtain ⟨hs0, hhs0, hS⟩ : ∃ h, h = _ ∧ St _ _ h _ := ⟨_, rfl, hS⟩
 refine wp_cutx (γ := Int) (fun (c : Int) => [(0, vi c)]) [(1, _)] (fun (c : Int) => hs0) (fun (c : Int) => c = (if n < 0 then -(n + 1) else n) ∧ 0 ≤ c) (hF.sub ⟨rfl, trivial⟩) hS ?_ ?_
 ·subst hhs0
  refine wp_seq_k ?_; intro K2 hK2
  refine reg hF hS (sq rfl (q_move rfl) <|
    sq rfl (q_lti rfl rfl) <|
    sq_end) ?_
  clear hF hS; intro a w hF hS
  refine hK2 _ _ ?_
  clear hK2
  refine wp_ifd hF rfl (fun hc1 => ?_) (fun hc1 => ?_)
  ·refine reg hF hS (sq rfl (q_move rfl) <|
     sq rfl (q_addi rfl rfl (by omega)) <|
     sq rfl (q_negi rfl (by omega)) <|
     sq rfl (q_assign rfl) <|
     sq_end) ?_
   clear hF hS; intro a w hF hS
   refine ⟨(-(n + 1)), ?_, hF.sub ⟨rfl, rfl, trivial⟩, ?_⟩
   ·exact ⟨by rw [if_pos hc1], by omega⟩
   ·exact hS
  ·refine wp_skip ?_
   refine ⟨(n), ?_, hF.sub ⟨rfl, rfl, trivial⟩, ?_⟩
   ·exact ⟨by rw [if_neg hc1], by omega⟩
   ·exact hS
 clear hF hS; rintro c a w hfact hF hS
 subst hhs0; (try dsimp only at hfact); (try dsimp only at hF); (try dsimp only at hS)
 obtain ⟨hc, hc0⟩ := hfact
 replace hS : St _ [] [] _ := hS
 refine wp_seq_k ?_; intro K3 hK3
 refine reg hF hS (sq rfl (q_move rfl) <|
   sq rfl (q_move rfl) <|
   sq rfl (q_remi rfl rfl (by omega)) <|
   sq rfl (q_assign rfl) <|
   sq_end) ?_
 clear hF hS; intro a w hF hS
 refine hK3 _ _ ?_
 clear hK3
 refine wp_ret ?_
 exact fn_ret (rs := [.tmp 4]) rfl hF hS (vs := [_]) ⟨rfl, trivial⟩ zQ zQ (by subst hc; rfl)

set_option maxRecDepth 4000 in
set_option maxHeartbeats 2000000 in
theorem key_ct (n : Int) (hn : -9223372036854775808 ≤ n ∧ n ≤ 9223372036854775807) (w : World) : Ct Tryz.prog 22 [vi n] w (fun r _ _ => r = vs (Lg.keyOf n)) := by
 refine fn_enter Tryz.func22 rfl Tryz.ntmps22 (Nat.le_of_ble_eq_true rfl) fun a hF hS => ?_
 have har := Gu.arnd_range (n := n) (m := 6) (by decide)
 refine wp_seq_k ?_; intro K1 hK1
 refine reg hF hS (sq rfl (q_assign rfl) <|
   sq_end) ?_
 clear hF hS; intro a w hF hS
 refine hK1 _ _ ?_
 clear hK1
 refine wp_seq_k ?_; intro K2 hK2
 refine regl ?_
 refine wpl_ef hF hS rfl (ef_bsliceA ty40 ty9 rfl rfl oQ (by decide) rfl rfl) ?_
 clear hF hS; rintro v1 _ _ a w ⟨rfl, rfl⟩ hF hS
 replace hS : St _ [] [_] _ := hS
 refine wpl_sq hF hS (sq rfl (q_move rfl) <|
   sq rfl (q_call fn11 rfl (fun w hS => arnd_ct _ _ (by omega) (by omega) w ) (fun _ _ _ h => h)) <|
   sq rfl (q_idx_row ty40 ty9 0 rfl rfl rfl (by omega)) <|
   sq rfl (q_ld_rowM (f := vs) (xs := Lg.keyL) ty9 0 [] rfl rfl (by show _ < 6; omega) rfl) <|
   sq rfl (q_assign rfl) <|
   sq_end) ?_
 clear hF hS; intro a w hF hS
 refine wpList_nil ?_
 refine hK2 _ _ ?_
 clear hK2
 refine wp_ret ?_
 exact fn_ret (rs := [.tmp 2]) rfl hF hS (vs := [_]) ⟨rfl, trivial⟩ zQ zQ (rfl)

set_option maxRecDepth 4000 in
set_option maxHeartbeats 2000000 in
theorem value_ct (n : Int) (hn : 0 ≤ n ∧ n ≤ 4096) (w : World) : Ct Tryz.prog 48 [vi n] w (fun r zs hs => zs = [] ∧ hs = [] ∧ ∃ s : List UInt8, r = vs s ∧ (s.length ≤ 6400 ∧ (n < 60 → s.length ≤ 60))) := by
 refine fn_enter Tryz.func48 rfl Tryz.ntmps48 (Nat.le_of_ble_eq_true rfl) fun a hF hS => ?_
 have har := Gu.arnd_range (n := n) (m := 64) (by decide)
 have hae : n < 60 → Gu.arnd n 64 = n := fun h => Gu.arnd_self hn.1 (by omega)
 refine wp_seq_k ?_; intro K1 hK1
 refine reg hF hS (sq rfl (q_assign rfl) <|
   sq_end) ?_
 clear hF hS; intro a w hF hS
 refine hK1 _ _ ?_
 clear hK1
 refine wp_seq_k ?_; intro K2 hK2
 refine reg hF hS (sq rfl (q_move rfl) <|
   sq rfl (q_call fn11 rfl (fun w hS => arnd_ct _ _ (by omega) (by omega) w ) (fun _ _ _ h => h)) <|
   sq rfl (q_assign rfl) <|
   sq_end) ?_
 clear hF hS; intro a w hF hS
 refine hK2 _ _ ?_
 clear hK2
 obtain ⟨hs0, hhs0, hS⟩ : ∃ h, h = _ ∧ St _ _ h _ := ⟨_, rfl, hS⟩
 refine wp_cutx (γ := Int) (fun (m9 : Int) => [(3, vi m9)]) [(0, _)] (fun (m9 : Int) => hs0) (fun (m9 : Int) => 0 ≤ m9 ∧ m9 ≤ 6400 ∧ (n < 60 → m9 ≤ 60)) (hF.sub ⟨rfl, trivial⟩) hS ?_ ?_
 ·subst hhs0
  refine wp_seq_k ?_; intro K3 hK3
  refine reg hF hS (sq rfl (q_move rfl) <|
    sq rfl (q_gti rfl rfl) <|
    sq_end) ?_
  clear hF hS; intro a w hF hS
  refine hK3 _ _ ?_
  clear hK3
  refine wp_ifd hF rfl (fun hc1 => ?_) (fun hc1 => ?_)
  ·refine reg hF hS (sq rfl (q_move rfl) <|
     sq rfl (q_muli rfl rfl (by omega)) <|
     sq rfl (q_assign rfl) <|
     sq_end) ?_
   clear hF hS; intro a w hF hS
   refine ⟨((100 * Gu.arnd n 64)), ?_, hF.sub ⟨rfl, rfl, trivial⟩, ?_⟩
   ·exact ⟨by omega, by omega, fun h => by have := hae h; omega⟩
   ·exact hS
  ·refine wp_skip ?_
   refine ⟨((Gu.arnd n 64)), ?_, hF.sub ⟨rfl, rfl, trivial⟩, ?_⟩
   ·exact ⟨by omega, by omega, fun h => by have := hae h; omega⟩
   ·exact hS
 clear hF hS; rintro m9 a w hfact hF hS
 subst hhs0; (try dsimp only at hfact); (try dsimp only at hF); (try dsimp only at hS)
 obtain ⟨hm0, hm1, hm2⟩ := hfact
 replace hS : St _ [] [] _ := hS
 obtain ⟨m, rfl⟩ : ∃ q : Nat, m9 = (q : Int) := ⟨m9.toNat, by omega⟩
 refine wp_seq_k ?_; intro K4 hK4
 refine regl ?_
 refine wpl_sq hF hS (sq rfl (q_move rfl) <|
   sq_end) ?_
 clear hF hS; intro a w hF hS
 refine wpl_ef hF hS rfl (ef_mks ty25 ty5 rfl rfl bQ bQ rfl) ?_
 clear hF hS; rintro v1 _ _ a w ⟨rfl, rfl⟩ hF hS
 replace hS : St _ [] [_] _ := hS
 refine wpl_sq hF hS (sq rfl (q_assign rfl) <|
   sq_end) ?_
 clear hF hS; intro a w hF hS
 refine wpList_nil ?_
 rw [show List.replicate m (Value.int .u8 0) = (List.replicate m (0 : UInt8)).map vb by rw [List.map_replicate]; rfl] at hS
 refine hK4 _ _ ?_
 clear hK4
 refine wp_seq_k ?_; intro K5 hK5
 refine wp_seq_k ?_; intro K6 hK6
 refine reg hF hS (sq rfl (q_assign rfl) <|
   sq_end) ?_
 clear hF hS; intro a w hF hS
 refine hK6 _ _ ?_
 clear hK6
 refine wp_block ?_
 obtain ⟨hs0, hhs0, hS⟩ : ∃ h, h = _ ∧ St _ _ h _ := ⟨_, rfl, hS⟩
 refine wp_loopx (γ := List UInt8 × Nat) ((List.replicate m 0), 0) (fun (gg : List UInt8 × Nat) => match gg with | (bs, i) => [(5, vi (i : Int))]) [(0, _), (3, _), (4, _)] (fun (gg : List UInt8 × Nat) => match gg with | (bs, i) => (hs0.set 0 (.row v1 5 1 m (bs.map vb)))) (fun (gg : List UInt8 × Nat) => match gg with | (bs, i) => i ≤ m ∧ bs.length = m) (fun (gg : List UInt8 × Nat) => match gg with | (bs, i) => m - i) (hF.sub ⟨rfl, rfl, rfl, rfl, trivial⟩) (by subst hhs0; exact hS) (by exact ⟨Nat.zero_le _, by simp⟩) ?_
 clear hF hS; rintro ⟨bs, i⟩ a w hfact hF hS
 subst hhs0; (try dsimp only at hfact); (try dsimp only at hF); (try dsimp only at hS)
 obtain ⟨hi0, hbs⟩ := hfact
 replace hS : St _ [] [_] _ := hS
 refine wp_seq_k ?_; intro K7 hK7
 refine wp_seq_k ?_; intro K8 hK8
 refine reg hF hS (sq rfl (q_move rfl) <|
   sq rfl (q_move rfl) <|
   sq rfl (q_lti rfl rfl) <|
   sq_end) ?_
 clear hF hS; intro a w hF hS
 refine hK8 _ _ ?_
 clear hK8
 refine wp_ifd hF rfl (fun hc2 => ?_) (fun hc2 => ?_)
 ·refine wp_skip ?_
  refine hK7 _ _ ?_
  clear hK7
  refine wp_seq_k ?_; intro K9 hK9
  refine wp_block ?_
  refine regl ?_
  refine wpl_sq hF hS (sq rfl (q_move rfl) <|
    sq rfl (q_move rfl) <|
    sq rfl (q_move rfl) <|
    sq rfl (q_move rfl) <|
    sq rfl (q_addi rfl rfl (by omega)) <|
    sq rfl (q_cv_ib ty3 ty5 rfl) <|
    sq rfl (q_idx_row ty25 ty5 0 rfl rfl rfl (by omega)) <|
    sq_end) ?_
  clear hF hS; intro a w hF hS
  refine wpl_ef hF hS rfl (ef_st_row ty5 0 rfl rfl rfl (by omega) rfl) ?_
  clear hF hS; rintro _ _ _ a w ⟨rfl, rfl, rfl⟩ hF hS
  replace hS : St _ [] [_] _ := hS
  refine wpList_nil ?_
  refine hK9 _ _ ?_
  clear hK9
  refine reg hF hS (sq rfl (q_move rfl) <|
    sq rfl (q_addi rfl rfl (by omega)) <|
    sq rfl (q_assign rfl) <|
    sq_end) ?_
  clear hF hS; intro a w hF hS
  refine ⟨((bs.set i (ofb (n + (i : Int)))), i + 1), ?_, ?_, hF.sub ⟨rfl, rfl, rfl, rfl, trivial⟩, ?_⟩
  ·(try dsimp only); omega
  ·exact ⟨by omega, by rw [List.length_set]; exact hbs⟩
  ·rw [← List.map_set] at hS
   exact hS
 ·refine wp_exit ?_
  refine hK5 _ _ ?_
  clear hK5
  refine wp_seq_k ?_; intro K10 hK10
  refine reg hF hS (sq rfl (q_move rfl) <|
    sq rfl (q_b2s_row ty25 ty9 ty5 0 rfl rfl) <|
    sq rfl (q_assign rfl) <|
    sq_end) ?_
  clear hF hS; intro a w hF hS
  refine hK10 _ _ ?_
  clear hK10
  refine wp_ret ?_
  exact fn_ret (rs := [.tmp 2]) rfl hF hS (vs := [_]) ⟨rfl, trivial⟩ zQ zQ (⟨rfl, rfl, _, rfl, by rw [hbs]; exact ⟨by omega, fun h => by have := hm2 h; omega⟩⟩)

set_option maxRecDepth 4000 in
set_option maxHeartbeats 2000000 in
theorem genf_ct (v : Value) (l : List Int) (w : World) (hb : Sl Go.Fw.encI (ph w) v l) : Ct Tryz.prog 10 [v] w (fun r zs hs => ∃ (q : List Lg.Fct) (z : PH), zs = [z] ∧ hs = [] ∧ Sl Go.Fw.encY z r q ∧ Lg.Gen q) := by
 refine fn_enter Tryz.func10 rfl Tryz.ntmps10 (Nat.le_of_ble_eq_true rfl) fun a hF hS => ?_
 have hbl := hb.1
 refine wp_seq_k ?_; intro K1 hK1
 refine reg hF hS (sq rfl (q_assign rfl) <|
   sq_end) ?_
 clear hF hS; intro a w hF hS
 refine hK1 _ _ ?_
 clear hK1
 refine wp_seq_k ?_; intro K2 hK2
 refine reg hF hS (sq rfl (q_assign rfl) <|
   sq_end) ?_
 clear hF hS; intro a w hF hS
 replace hS := hS.nilRow 24 3
 refine hK2 _ _ ?_
 clear hK2
 refine wp_seq_k ?_; intro K3 hK3
 refine reg hF hS (sq rfl (q_assign rfl) <|
   sq_end) ?_
 clear hF hS; intro a w hF hS
 refine hK3 _ _ ?_
 clear hK3
 refine wp_seq_k ?_; intro K4 hK4
 refine wp_seq_k ?_; intro K5 hK5
 refine reg hF hS (sq rfl (q_assign rfl) <|
   sq_end) ?_
 clear hF hS; intro a w hF hS
 refine hK5 _ _ ?_
 clear hK5
 refine wp_block ?_
 obtain ⟨hs0, hhs0, hS⟩ : ∃ h, h = _ ∧ St _ _ h _ := ⟨_, rfl, hS⟩
 refine wp_loopx (γ := Value × List Lg.Fct × Int × Nat) ((Value.slice none 0 0), [], 0, 0) (fun (gg : Value × List Lg.Fct × Int × Nat) => match gg with | (u, q, c, i) => [(3, u), (4, vi c), (5, vi (i : Int))]) [(0, _)] (fun (gg : Value × List Lg.Fct × Int × Nat) => match gg with | (u, q, c, i) => (hs0.set 0 (.row u 24 3 q.length (q.flatMap Lg.fcC)))) (fun (gg : Value × List Lg.Fct × Int × Nat) => match gg with | (u, q, c, i) => (i ≤ 12 ∧ q.length = i) ∧ (0 ≤ c ∧ c ≤ 2 * (i : Int)) ∧ Lg.Gst q c) (fun (gg : Value × List Lg.Fct × Int × Nat) => match gg with | (u, q, c, i) => 12 - i) (hF.sub ⟨rfl, rfl, rfl, rfl, trivial⟩) (by subst hhs0; exact hS) (by exact ⟨⟨Nat.zero_le _, rfl⟩, ⟨Int.le_refl _, by decide⟩, Lg.Gst.start⟩) ?_
 clear hF hS; rintro ⟨u, q, c, i⟩ a w hfact hF hS
 subst hhs0; (try dsimp only at hfact); (try dsimp only at hF); (try dsimp only at hS)
 obtain ⟨⟨hi0, hql⟩, hc0, hgs⟩ := hfact
 replace hS : St _ [] [_] _ := hS
 refine wp_seq_k ?_; intro K6 hK6
 refine wp_seq_k ?_; intro K7 hK7
 refine regl ?_
 refine wpl_sq hF hS (sq rfl (q_move rfl) <|
   sq rfl (q_move rfl) <|
   sq rfl (q_len_sl ty22 hb rfl) <|
   sq rfl (q_lti rfl rfl) <|
   sq rfl (q_move rfl) <|
   sq_end) ?_
 clear hF hS; intro a w hF hS
 refine wpl_and 4 11 2 hF hS rfl rfl rfl rfl rfl (fun hg => have hg := (by first | exact of_decide_eq_true hg | exact hg); sq_go 11 rfl rfl rfl (q_move rfl) <|
   sq_go 11 rfl rfl rfl (q_lti rfl rfl) <|
   sq_end) rfl rfl ?_
 clear hF hS; intro a w hF hS
 refine wpList_nil ?_
 refine hK7 _ _ ?_
 clear hK7
 refine wp_if hF rfl (fun hc1 => ?_) (fun hc1 => ?_)
 ·(try simp only [Bool.or_eq_true, Bool.and_eq_true, Bool.or_eq_false_iff, Bool.and_eq_false_iff, decide_eq_true_eq, decide_eq_false_iff_not, Bool.not_eq_true', Bool.not_eq_false'] at hc1)
  have har := Gu.arnd_range (n := l.getD i 0) (m := 4096) (by decide)
  have hirg := sl_rng hb _ (getD_mem (xs := l) (k := i) (by omega))
  have hirg2 : -9223372036854775808 ≤ l.getD (i : Int).toNat 0 ∧ l.getD (i : Int).toNat 0 ≤ 9223372036854775807 := by rw [Int.toNat_natCast]; exact hirg
  have htm : 0 ≤ Gu.arnd (l.getD i 0) 4096 % 3 ∧ Gu.arnd (l.getD i 0) 4096 % 3 ≤ 2 := by omega
  have hka := Gu.arnd_range (n := Gu.arnd (l.getD i 0) 4096 / 3) (m := 6) (by decide)
  refine wp_skip ?_
  refine hK6 _ _ ?_
  clear hK6
  refine wp_seq_k ?_; intro K8 hK8
  refine wp_block ?_
  refine wp_seq_k ?_; intro K9 hK9
  refine reg hF hS (sq rfl (q_move rfl) <|
    sq rfl (q_move rfl) <|
    sq rfl (q_idx_sl ty22 ty3 hb rfl rfl (by omega)) <|
    sq rfl (q_ld_I ty3 hb zin0 rfl rfl (by omega)) <|
    sq rfl (q_call fn11 rfl (fun w hS => arnd_ct _ _ (by omega) (by omega) w ) (fun _ _ _ h => h)) <|
    sq rfl (q_assign rfl) <|
    sq_end) ?_
  clear hF hS; intro a w hF hS
  rw [Int.toNat_natCast] at hF
  refine hK9 _ _ ?_
  clear hK9
  refine wp_seq_k ?_; intro K10 hK10
  refine reg hF hS (sq rfl (q_move rfl) <|
    sq rfl (q_move rfl) <|
    sq rfl (q_remi rfl rfl (by omega)) <|
    sq rfl (q_addi rfl rfl (by omega)) <|
    sq rfl (q_assign rfl) <|
    sq_end) ?_
  clear hF hS; intro a w hF hS
  refine hK10 _ _ ?_
  clear hK10
  refine regl ?_
  refine wpl_sq hF hS (sq rfl (q_move rfl) <|
    sq rfl (q_move rfl) <|
    sq rfl (q_move rfl) <|
    sq rfl (q_quoi rfl rfl (by omega)) <|
    sq rfl (q_call fn22 rfl (fun w hS => key_ct _ (by omega) w ) (fun _ _ _ h => h)) <|
    sq rfl (q_move rfl) <|
    sq rfl (q_quoi rfl rfl (by omega)) <|
    sq rfl (q_remi rfl rfl (by omega)) <|
    sq_end) ?_
  clear hF hS; intro a w hF hS
  refine wpl_ef hF hS rfl (ef_call fn48 rfl (fun w hS => value_ct _ (by omega) w )) ?_
  clear hF hS; rintro _ _ _ a w ⟨_, _, rfl, rfl, ⟨rfl, rfl, sv3, rfl, hv4⟩⟩ hF hS
  replace hS : St _ [] [_] _ := hS
  refine wpl_sq hF hS (sq rfl (q_buildS1 ty24 3 kQ rfl rfl (oc_cons rfl (oc_cons rfl (oc_cons rfl oc_nil))) rfl rfl) <|
    sq_end) ?_
  clear hF hS; intro a w hF hS
  refine wpl_ef hF hS rfl (ef_bsliceW ty26 ty24 rfl bQ (by decide) oQ (by decide) (by decide)) ?_
  clear hF hS; rintro v5 _ _ a w ⟨rfl, rfl⟩ hF hS
  replace hS : St _ [] [_, _] _ := hS
  refine wpl_ef hF hS rfl (ef_append ty26 ty24 1 rfl rfl rfl (src_row ty26 (k := 0) rfl oQ) bQ rfl (by decide)) ?_
  clear hF hS; rintro v7 _ _ a w ⟨rfl, rfl⟩ hF hS
  replace hS : St _ [] [_, _] _ := hS
  refine wpl_sq hF hS (sq rfl (q_assign rfl) <|
    sq_end) ?_
  clear hF hS; intro a w hF hS
  refine wpList_nil ?_
  refine hK8 _ _ ?_
  clear hK8
  refine reg hF hS (sq rfl (q_move rfl) <|
    sq rfl (q_addi rfl rfl (by omega)) <|
    sq rfl (q_assign rfl) <|
    sq_end) ?_
  clear hF hS; intro a w hF hS
  replace hS := hS.keep zQ (sQ.n)
  refine ⟨(v7, (q ++ [(⟨c + Gu.arnd (l.getD i 0) 4096 % 3, Lg.keyOf (Gu.arnd (l.getD i 0) 4096 / 3), sv3⟩ : Lg.Fct)]), (c + Gu.arnd (l.getD i 0) 4096 % 3), i + 1), ?_, ?_, hF.sub ⟨rfl, rfl, rfl, rfl, trivial⟩, ?_⟩
  ·(try dsimp only); omega
  ·exact ⟨⟨by omega, by rw [List.length_append, hql]; rfl⟩, ⟨by omega, by omega⟩, hgs.add (by omega) (by omega) (by omega) (Lg.keyL_at _ (by omega)) (hv4.2 (by omega))⟩
  ·have e1 := Lg.fc_snoc q (⟨c + Gu.arnd (l.getD i 0) 4096 % 3, Lg.keyOf (Gu.arnd (l.getD i 0) 4096 / 3), sv3⟩ : Lg.Fct)
   have e2 := Lg.len_snoc q (⟨c + Gu.arnd (l.getD i 0) 4096 % 3, Lg.keyOf (Gu.arnd (l.getD i 0) 4096 / 3), sv3⟩ : Lg.Fct)
   dsimp only at e1
   rw [e1, e2] at hS
   exact hS
 ·(try simp only [Bool.or_eq_true, Bool.and_eq_true, Bool.or_eq_false_iff, Bool.and_eq_false_iff, decide_eq_true_eq, decide_eq_false_iff_not, Bool.not_eq_true', Bool.not_eq_false'] at hc1)
  refine wp_exit ?_
  refine hK4 _ _ ?_
  clear hK4
  refine wp_seq_k ?_; intro K11 hK11
  refine reg hF hS (sq rfl (q_move rfl) <|
    sq rfl (q_assign rfl) <|
    sq_end) ?_
  clear hF hS; intro a w hF hS
  refine hK11 _ _ ?_
  clear hK11
  refine wp_ret ?_
  obtain ⟨zr, hzr, hS⟩ := St.freezeY (xs := q) hS rfl (by omega) (Lg.good_fc hgs.good)
  exact fn_ret (rs := [.tmp 2]) rfl hF hS (vs := [_]) ⟨rfl, trivial⟩ (zs' := [zr]) (hs' := []) (List.singleton_sublist.2 (by simp)) zQ ⟨q, zr, rfl, rfl, hzr, hgs.gen (by omega) (by omega)⟩
end Go.Proofs.YtngcjojijaknnaaGreatDoor
