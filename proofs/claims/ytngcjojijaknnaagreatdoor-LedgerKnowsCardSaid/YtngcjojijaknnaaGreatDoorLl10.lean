/- A text of a proof over this seat: walks over the program's functions and the plain laws that they need. -/
import Derived.Test.YtngcjojijaknnaaGreatDoorLl9
import Derived.Test.YtngcjojijaknnaaGreatDoorFwB
set_option linter.all false
namespace Go.Proofs.YtngcjojijaknnaaGreatDoor
open Go.Fw
theorem fn10 : FnOk Tryz.prog 10 := ⟨_, Tryz.func10, rfl, by kernel_rfl⟩
theorem fn20 : FnOk Tryz.prog 20 := ⟨_, Tryz.func20, rfl, by kernel_rfl⟩
theorem fn21 : FnOk Tryz.prog 21 := ⟨_, Tryz.func21, rfl, by kernel_rfl⟩
theorem fn24 : FnOk Tryz.prog 24 := ⟨_, Tryz.func24, rfl, by kernel_rfl⟩

attribute [local irreducible] Sha.sum Jn.good Jn.hd Jn.lb Jn.cnt Jn.unp Jn.recd Jn.app Jn.opn Lg.dec Lg.enc Lg.kn Lg.keyOf Gu.arnd

set_option maxRecDepth 4000 in
set_option maxHeartbeats 2000000 in
theorem llaw2_ct (va : Value) (l0 : List Int) (vr : Value) (rw0 : List Lg.Fct) (tick bits : Int) (key : List UInt8) (ht : -9223372036854775808 ≤ tick ∧ tick ≤ 9223372036854775807) (hbi : -9223372036854775808 ≤ bits ∧ bits ≤ 9223372036854775807) (w : World) (hb1 : Sl Go.Fw.encI (ph w) va l0) (hb2 : Sl Go.Fw.encY (ph w) vr rw0) {fz0 : Nat × Nat} {bt0 : TypeId} (hg0 : w.heap[1]? = some (.cells (Sha.kc.map vw).toArray bt0 fz0)) : Ct Tryz.prog 4 [va, vr, vi tick, vi bits, vs key] w (fun r _ _ => r = .bool true) := by
 refine fn_enter Tryz.func4 rfl Tryz.ntmps4 (Nat.le_of_ble_eq_true rfl) fun a hF hS => ?_
 have hbl := hb2.1
 obtain ⟨z0, hz0e⟩ : ∃ z, z = ph w := ⟨_, rfl⟩
 rw [← hz0e] at hb2
 have har := Gu.arnd_range (n := tick) (m := 20) (by decide)
 refine wp_seq_k ?_; intro K1 hK1
 refine reg hF hS (sq rfl (q_assign rfl) <|
   sq_end) ?_
 clear hF hS; intro a w hF hS
 refine hK1 _ _ ?_
 clear hK1
 refine wp_seq_k ?_; intro K2 hK2
 refine regl ?_
 refine wpl_sq hF hS (sq rfl (q_move rfl) <|
   sq_end) ?_
 clear hF hS; intro a w hF hS
 refine wpl_ef hF hS rfl (ef_call fn10 rfl (fun w hS => genf_ct _ _ w (Sl.mono (hS.le zin0) hb1))) ?_
 clear hF hS; rintro _ _ _ a w ⟨_, _, rfl, rfl, ⟨q2, z3, rfl, rfl, hz4, hg5⟩⟩ hF hS
 replace hS : St _ [_] [] _ := hS
 refine wpl_sq hF hS (sq rfl (q_assign rfl) <|
   sq_end) ?_
 clear hF hS; intro a w hF hS
 refine wpList_nil ?_
 have hq12 := hg5.len
 refine hK2 _ _ ?_
 clear hK2
 refine wp_seq_k ?_; intro K3 hK3
 refine regl ?_
 refine wpl_sq hF hS (sq rfl (q_move rfl) <|
   sq rfl (q_move rfl) <|
   sq_end) ?_
 clear hF hS; intro a w hF hS
 refine wpl_ef hF hS rfl (ef_call fn21 rfl (fun w hS => turned_ct _ _ _ (by omega) (by omega) w (Sl.mono (hS.le (.inr (by simp))) hz4))) ?_
 clear hF hS; rintro _ _ _ a w ⟨_, _, rfl, rfl, ⟨q7, z8, rfl, rfl, hz9, hg10⟩⟩ hF hS
 replace hS : St _ [_, _] [] _ := hS
 refine wpl_sq hF hS (sq rfl (q_assign rfl) <|
   sq_end) ?_
 clear hF hS; intro a w hF hS
 refine wpList_nil ?_
 have htn := hg10
 refine hK3 _ _ ?_
 clear hK3
 obtain ⟨hs0, hhs0, hS⟩ : ∃ h, h = _ ∧ St _ _ h _ := ⟨_, rfl, hS⟩
 refine wp_cutx (γ := Value × List Lg.Fct) (fun (gg : Value × List Lg.Fct) => match gg with | (vr2, rw2) => [(1, vr2)]) [(2, _), (4, _), (11, _), (12, _)] (fun (gg : Value × List Lg.Fct) => match gg with | (vr2, rw2) => hs0) (fun (gg : Value × List Lg.Fct) => match gg with | (vr2, rw2) => Sl Go.Fw.encY z0 vr2 rw2 ∧ rw2.length ≤ 40) (hF.sub ⟨rfl, rfl, rfl, rfl, trivial⟩) hS ?_ ?_
 ·subst hhs0
  refine wp_seq_k ?_; intro K4 hK4
  refine reg hF hS (sq rfl (q_move rfl) <|
    sq rfl (q_len_sl ty26 hb2 rfl) <|
    sq rfl (q_gti rfl rfl) <|
    sq_end) ?_
  clear hF hS; intro a w hF hS
  refine hK4 _ _ ?_
  clear hK4
  refine wp_ifd hF rfl (fun hc1 => ?_) (fun hc1 => ?_)
  ·refine reg hF hS (sq rfl (q_move rfl) <|
     sq rfl (q_slsl_hi ty26 ty24 hb2 rfl rfl (by omega)) <|
     sq rfl (q_assign rfl) <|
     sq_end) ?_
   clear hF hS; intro a w hF hS
   refine ⟨((slV vr 3 0 40), (rw0.take 40)), ?_, hF.sub ⟨rfl, rfl, rfl, rfl, rfl, trivial⟩, ?_⟩
   ·exact ⟨Sl.cut hb2 ⟨by decide, by omega⟩, by rw [List.length_take]; omega⟩
   ·exact hS
  ·refine wp_skip ?_
   refine ⟨(vr, rw0), ?_, hF.sub ⟨rfl, rfl, rfl, rfl, rfl, trivial⟩, ?_⟩
   ·exact ⟨hb2, by omega⟩
   ·exact hS
 clear hF hS; rintro ⟨vr2, rw2⟩ a w hfact hF hS
 subst hhs0; (try dsimp only at hfact); (try dsimp only at hF); (try dsimp only at hS)
 obtain ⟨hr2, hrl⟩ := hfact
 replace hS : St _ [_, _] [] _ := hS
 refine wp_seq_k ?_; intro K5 hK5
 refine regl ?_
 refine wpl_sq hF hS (sq rfl (q_move rfl) <|
   sq_end) ?_
 clear hF hS; intro a w hF hS
 refine wpl_ef hF hS rfl (ef_bsliceA ty40 ty9 rfl rfl oQ (by decide) rfl rfl) ?_
 clear hF hS; rintro v11 _ _ a w ⟨rfl, rfl⟩ hF hS
 replace hS : St _ [_, _] [_] _ := hS
 refine wpl_sq hF hS (sq rfl (q_assign rfl) <|
   sq_end) ?_
 clear hF hS; intro a w hF hS
 refine wpList_nil ?_
 refine hK5 _ _ ?_
 clear hK5
 refine wp_seq_k ?_; intro K6 hK6
 refine wp_seq_k ?_; intro K7 hK7
 refine reg hF hS (sq rfl (q_assign rfl) <|
   sq_end) ?_
 clear hF hS; intro a w hF hS
 refine hK7 _ _ ?_
 clear hK7
 refine wp_block ?_
 obtain ⟨hs0, hhs0, hS⟩ : ∃ h, h = _ ∧ St _ _ h _ := ⟨_, rfl, hS⟩
 refine wp_loopx (γ := Value × List (List UInt8) × Nat) (v11, [key, []], 0) (fun (gg : Value × List (List UInt8) × Nat) => match gg with | (u, ks, i) => [(13, u), (14, vi (i : Int))]) [(1, _), (2, _), (11, _), (12, _)] (fun (gg : Value × List (List UInt8) × Nat) => match gg with | (u, ks, i) => (hs0.set 0 (.row u 9 1 ks.length (ks.map vs)))) (fun (gg : Value × List (List UInt8) × Nat) => match gg with | (u, ks, i) => i ≤ 6 ∧ ks.length = i + 2) (fun (gg : Value × List (List UInt8) × Nat) => match gg with | (u, ks, i) => 6 - i) (hF.sub ⟨rfl, rfl, rfl, rfl, rfl, rfl, trivial⟩) (by subst hhs0; exact hS) (by exact ⟨Nat.zero_le _, rfl⟩) ?_
 clear hF hS; rintro ⟨u, ks, i⟩ a w hfact hF hS
 subst hhs0; (try dsimp only at hfact); (try dsimp only at hF); (try dsimp only at hS)
 obtain ⟨hi0, hkl⟩ := hfact
 replace hS : St _ [_, _] [_] _ := hS
 refine wp_seq_k ?_; intro K8 hK8
 refine wp_seq_k ?_; intro K9 hK9
 refine reg hF hS (sq rfl (q_move rfl) <|
   sq rfl (q_lti rfl rfl) <|
   sq_end) ?_
 clear hF hS; intro a w hF hS
 refine hK9 _ _ ?_
 clear hK9
 refine wp_ifd hF rfl (fun hc2 => ?_) (fun hc2 => ?_)
 ·refine wp_skip ?_
  refine hK8 _ _ ?_
  clear hK8
  refine wp_seq_k ?_; intro K10 hK10
  refine wp_block ?_
  refine regl ?_
  refine wpl_sq hF hS (sq rfl (q_move rfl) <|
    sq rfl (q_move rfl) <|
    sq rfl (q_call fn22 rfl (fun w hS => key_ct _ (by omega) w ) (fun _ _ _ h => h)) <|
    sq_end) ?_
  clear hF hS; intro a w hF hS
  refine wpl_ef hF hS rfl (ef_bsliceA ty40 ty9 rfl rfl oQ (by decide) rfl rfl) ?_
  clear hF hS; rintro v13 _ _ a w ⟨rfl, rfl⟩ hF hS
  replace hS : St _ [_, _] [_, _] _ := hS
  refine wpl_ef hF hS rfl (ef_append ty40 ty9 1 rfl rfl rfl (src_row ty40 (k := 0) rfl oQ) bQ rfl (by decide)) ?_
  clear hF hS; rintro v15 _ _ a w ⟨rfl, rfl⟩ hF hS
  replace hS : St _ [_, _] [_, _] _ := hS
  refine wpl_sq hF hS (sq rfl (q_assign rfl) <|
    sq_end) ?_
  clear hF hS; intro a w hF hS
  refine wpList_nil ?_
  refine hK10 _ _ ?_
  clear hK10
  refine reg hF hS (sq rfl (q_move rfl) <|
    sq rfl (q_addi rfl rfl (by omega)) <|
    sq rfl (q_assign rfl) <|
    sq_end) ?_
  clear hF hS; intro a w hF hS
  replace hS := hS.keep sQ (sQ.n)
  refine ⟨(v15, (ks ++ [Lg.keyOf (i : Int)]), i + 1), ?_, ?_, hF.sub ⟨rfl, rfl, rfl, rfl, rfl, rfl, trivial⟩, ?_⟩
  ·(try dsimp only); omega
  ·exact ⟨by omega, by rw [List.length_append, hkl]; rfl⟩
  ·rw [show ks.map vs ++ [vs (Lg.keyOf (i : Int))] = (ks ++ [Lg.keyOf (i : Int)]).map vs by simp, show ks.length + 1 = (ks ++ [Lg.keyOf (i : Int)]).length by simp] at hS
   exact hS
 ·refine wp_exit ?_
  refine hK6 _ _ ?_
  clear hK6
  refine wp_seq_k ?_; intro K11 hK11
  refine wp_seq_k ?_; intro K12 hK12
  refine reg hF hS (sq rfl (q_assign rfl) <|
    sq_end) ?_
  clear hF hS; intro a w hF hS
  refine hK12 _ _ ?_
  clear hK12
  refine wp_block ?_
  obtain ⟨hs0, hhs0, hS⟩ : ∃ h, h = _ ∧ St _ _ h _ := ⟨_, rfl, hS⟩
  refine wp_loopx (γ := Value × List (List UInt8) × Nat) (u, ks, 0) (fun (gg : Value × List (List UInt8) × Nat) => match gg with | (u2, ks2, j) => [(13, u2), (15, vi (j : Int))]) [(1, _), (2, _), (11, _), (12, _)] (fun (gg : Value × List (List UInt8) × Nat) => match gg with | (u2, ks2, j) => (hs0.set 0 (.row u2 9 1 ks2.length (ks2.map vs)))) (fun (gg : Value × List (List UInt8) × Nat) => match gg with | (u2, ks2, j) => j ≤ rw2.length ∧ ks2.length = j + 8) (fun (gg : Value × List (List UInt8) × Nat) => match gg with | (u2, ks2, j) => rw2.length - j) (hF.sub ⟨rfl, rfl, rfl, rfl, rfl, rfl, trivial⟩) (by subst hhs0; exact hS) (by exact ⟨Nat.zero_le _, by omega⟩) ?_
  clear hF hS; rintro ⟨u2, ks2, j⟩ a w hfact hF hS
  subst hhs0; (try dsimp only at hfact); (try dsimp only at hF); (try dsimp only at hS)
  obtain ⟨hj0, hkl2⟩ := hfact
  replace hS : St _ [_, _] [_] _ := hS
  refine wp_seq_k ?_; intro K13 hK13
  refine wp_seq_k ?_; intro K14 hK14
  refine reg hF hS (sq rfl (q_move rfl) <|
    sq rfl (q_move rfl) <|
    sq rfl (q_len_sl ty26 hr2 rfl) <|
    sq rfl (q_lti rfl rfl) <|
    sq_end) ?_
  clear hF hS; intro a w hF hS
  refine hK14 _ _ ?_
  clear hK14
  refine wp_ifd hF rfl (fun hc3 => ?_) (fun hc3 => ?_)
  ·refine wp_skip ?_
   refine hK13 _ _ ?_
   clear hK13
   refine wp_seq_k ?_; intro K15 hK15
   refine wp_block ?_
   refine regl ?_
   refine wpl_sq hF hS (sq rfl (q_move rfl) <|
     sq rfl (q_move rfl) <|
     sq rfl (q_move rfl) <|
     sq rfl (q_idx_sl ty26 ty24 hr2 rfl rfl (by omega)) <|
     sq rfl (q_fld_Y ty24 hr2 rfl (by omega) rfl (s' := 0) kQ) <|
     sq rfl (q_ld_Y1 ty9 hr2 (.inl hz0e) rfl rfl (by omega)) <|
     sq_end) ?_
   clear hF hS; intro a w hF hS
   refine wpl_ef hF hS rfl (ef_bsliceA ty40 ty9 rfl rfl oQ (by decide) rfl rfl) ?_
   clear hF hS; rintro v16 _ _ a w ⟨rfl, rfl⟩ hF hS
   replace hS : St _ [_, _] [_, _] _ := hS
   refine wpl_ef hF hS rfl (ef_append ty40 ty9 1 rfl rfl rfl (src_row ty40 (k := 0) rfl oQ) bQ rfl (by decide)) ?_
   clear hF hS; rintro v18 _ _ a w ⟨rfl, rfl⟩ hF hS
   replace hS : St _ [_, _] [_, _] _ := hS
   refine wpl_sq hF hS (sq rfl (q_assign rfl) <|
     sq_end) ?_
   clear hF hS; intro a w hF hS
   refine wpList_nil ?_
   refine hK15 _ _ ?_
   clear hK15
   refine reg hF hS (sq rfl (q_move rfl) <|
     sq rfl (q_addi rfl rfl (by omega)) <|
     sq rfl (q_assign rfl) <|
     sq_end) ?_
   clear hF hS; intro a w hF hS
   replace hS := hS.keep sQ (sQ.n)
   refine ⟨(v18, (ks2 ++ [(rw2.getD j Lg.f0).ky]), j + 1), ?_, ?_, hF.sub ⟨rfl, rfl, rfl, rfl, rfl, rfl, trivial⟩, ?_⟩
   ·(try dsimp only); omega
   ·exact ⟨by omega, by rw [List.length_append, hkl2]; rfl⟩
   ·rw [Int.toNat_natCast] at hS
    rw [show ks2.map vs ++ [vs (rw2.getD j Lg.f0).ky] = (ks2 ++ [(rw2.getD j Lg.f0).ky]).map vs by simp, show ks2.length + 1 = (ks2 ++ [(rw2.getD j Lg.f0).ky]).length by simp] at hS
    exact hS
  ·refine wp_exit ?_
   refine hK11 _ _ ?_
   clear hK11
   refine wp_seq_k ?_; intro K16 hK16
   refine regl ?_
   refine wpl_sq hF hS (sq rfl (q_move rfl) <|
     sq rfl (q_move rfl) <|
     sq rfl (q_call fn11 rfl (fun w hS => arnd_ct _ _ (by omega) (by omega) w ) (fun _ _ _ h => h)) <|
     sq_end) ?_
   clear hF hS; intro a w hF hS
   refine wpl_ef hF hS rfl (ef_bsliceA ty22 ty3 rfl rfl oQ (by decide) rfl rfl) ?_
   clear hF hS; rintro v19 _ _ a w ⟨rfl, rfl⟩ hF hS
   replace hS : St _ [_, _] [_, _] _ := hS
   refine wpl_sq hF hS (sq rfl (q_assign rfl) <|
     sq_end) ?_
   clear hF hS; intro a w hF hS
   refine wpList_nil ?_
   obtain ⟨tks, htl, hS⟩ : ∃ tks : List Int, tks.length = 4 ∧ St _ (_ :: _ :: []) (.row v19 3 1 tks.length (tks.map vi) :: _) _ := ⟨[tick, Gu.arnd tick 20, -1, 1099511627776], rfl, hS⟩
   replace hS : St _ [_, _] [_, _] _ := hS
   refine hK16 _ _ ?_
   clear hK16
   refine wp_seq_k ?_; intro K17 hK17
   refine wp_seq_k ?_; intro K18 hK18
   refine reg hF hS (sq rfl (q_assign rfl) <|
     sq_end) ?_
   clear hF hS; intro a w hF hS
   refine hK18 _ _ ?_
   clear hK18
   refine wp_block ?_
   obtain ⟨hs0, hhs0, hS⟩ : ∃ h, h = _ ∧ St _ _ h _ := ⟨_, rfl, hS⟩
   refine wp_loopx (γ := Nat) (0) (fun (m : Nat) => [(17, vi (m : Int))]) [(1, _), (11, _), (12, _), (13, _), (16, _)] (fun (m : Nat) => hs0) (fun (m : Nat) => m ≤ 4) (fun (m : Nat) => 4 - m) (hF.sub ⟨rfl, rfl, rfl, rfl, rfl, rfl, trivial⟩) (by subst hhs0; exact hS) (by exact Nat.zero_le _) ?_
   clear hF hS; rintro m a w hfact hF hS
   subst hhs0; (try dsimp only at hfact); (try dsimp only at hF); (try dsimp only at hS)
   have hm0 := hfact
   replace hS : St _ [_, _] [_, _] _ := hS
   refine wp_seq_k ?_; intro K19 hK19
   refine wp_seq_k ?_; intro K20 hK20
   refine reg hF hS (sq rfl (q_move rfl) <|
     sq rfl (q_move rfl) <|
     sq rfl (q_len_row ty22 0 rfl rfl) <|
     sq rfl (q_lti rfl rfl) <|
     sq_end) ?_
   clear hF hS; intro a w hF hS
   refine hK20 _ _ ?_
   clear hK20
   refine wp_ifd hF rfl (fun hc4 => ?_) (fun hc4 => ?_)
   ·refine wp_skip ?_
    refine hK19 _ _ ?_
    clear hK19
    refine wp_seq_k ?_; intro K21 hK21
    refine wp_block ?_
    refine wp_seq_k ?_; intro K22 hK22
    refine reg hF hS (sq rfl (q_assign rfl) <|
      sq_end) ?_
    clear hF hS; intro a w hF hS
    refine hK22 _ _ ?_
    clear hK22
    refine wp_block ?_
    obtain ⟨hs0, hhs0, hS⟩ : ∃ h, h = _ ∧ St _ _ h _ := ⟨_, rfl, hS⟩
    refine wp_loopx (γ := Nat) (0) (fun (k : Nat) => [(18, vi (k : Int))]) [(1, _), (11, _), (12, _), (13, _), (16, _), (17, _)] (fun (k : Nat) => hs0) (fun (k : Nat) => k ≤ ks2.length) (fun (k : Nat) => ks2.length - k) (hF.sub ⟨rfl, rfl, rfl, rfl, rfl, rfl, rfl, trivial⟩) (by subst hhs0; exact hS) (by exact Nat.zero_le _) ?_
    clear hF hS; rintro k a w hfact hF hS
    subst hhs0; (try dsimp only at hfact); (try dsimp only at hF); (try dsimp only at hS)
    have hk0 := hfact
    replace hS : St _ [_, _] [_, _] _ := hS
    refine wp_seq_k ?_; intro K23 hK23
    refine wp_seq_k ?_; intro K24 hK24
    refine reg hF hS (sq rfl (q_move rfl) <|
      sq rfl (q_move rfl) <|
      sq rfl (q_len_row ty40 1 rfl rfl) <|
      sq rfl (q_lti rfl rfl) <|
      sq_end) ?_
    clear hF hS; intro a w hF hS
    refine hK24 _ _ ?_
    clear hK24
    refine wp_ifd hF rfl (fun hc5 => ?_) (fun hc5 => ?_)
    ·refine wp_skip ?_
     refine hK23 _ _ ?_
     clear hK23
     refine wp_seq_k ?_; intro K25 hK25
     refine wp_block ?_
     refine wp_seq_k ?_; intro K26 hK26
     refine regd mixed kQ hF hS (sq rfl (q_move rfl) <|
       sq rfl (q_move rfl) <|
       sq rfl (q_move rfl) <|
       sq rfl (q_idx_row ty22 ty3 0 rfl rfl rfl (by omega)) <|
       sq rfl (q_ld_rowM ty3 0 (0 : Int) rfl rfl bQ rfl) <|
       sq rfl (q_move rfl) <|
       sq rfl (q_move rfl) <|
       sq rfl (q_idx_row ty40 ty9 1 rfl rfl rfl (by omega)) <|
       sq rfl (q_ld_rowM ty9 1 default rfl rfl bQ rfl) <|
       sq rfl (q_call fn23 rfl (fun w hS => known9_ct _ _ _ _ w (Sl.mono (hS.le (.inr (by simp))) hz4)) (fun _ _ _ h => h)) <|
       sq rfl (q_move rfl) <|
       sq rfl (q_extract rfl rfl) <|
       sq rfl (q_extract rfl rfl) <|
       sq rfl (q_assign rfl) <|
       sq rfl (q_assign rfl) <|
       sq_end) ?_
     clear hF hS; intro a w hF hS
     refine hK26 _ _ ?_
     clear hK26
     refine wp_seq_k ?_; intro K27 hK27
     refine regd mixed kQ hF hS (sq rfl (q_move rfl) <|
       sq rfl (q_move rfl) <|
       sq rfl (q_move rfl) <|
       sq rfl (q_idx_row ty22 ty3 0 rfl rfl rfl (by omega)) <|
       sq rfl (q_ld_rowM ty3 0 (0 : Int) rfl rfl bQ rfl) <|
       sq rfl (q_move rfl) <|
       sq rfl (q_move rfl) <|
       sq rfl (q_idx_row ty40 ty9 1 rfl rfl rfl (by omega)) <|
       sq rfl (q_ld_rowM ty9 1 default rfl rfl bQ rfl) <|
       sq rfl (q_call fn24 rfl (fun w hS => rknown_ct _ _ _ _ w (Sl.mono (hS.le (.inr (by simp))) hz4)) (fun _ _ _ h => h)) <|
       sq rfl (q_move rfl) <|
       sq rfl (q_extract rfl rfl) <|
       sq rfl (q_extract rfl rfl) <|
       sq rfl (q_assign rfl) <|
       sq rfl (q_assign rfl) <|
       sq_end) ?_
     clear hF hS; intro a w hF hS
     refine hK27 _ _ ?_
     clear hK27
     refine wp_seq_k ?_; intro K28 hK28
     refine regd mixed kQ hF hS (sq rfl (q_move rfl) <|
       sq rfl (q_move rfl) <|
       sq rfl (q_move rfl) <|
       sq rfl (q_idx_row ty22 ty3 0 rfl rfl rfl (by omega)) <|
       sq rfl (q_ld_rowM ty3 0 (0 : Int) rfl rfl bQ rfl) <|
       sq rfl (q_move rfl) <|
       sq rfl (q_move rfl) <|
       sq rfl (q_idx_row ty40 ty9 1 rfl rfl rfl (by omega)) <|
       sq rfl (q_ld_rowM ty9 1 default rfl rfl bQ rfl) <|
       sq rfl (q_call fn23 rfl (fun w hS => known9_ct _ _ _ _ w (Sl.mono (hS.le (.inr (by simp))) hz9)) (fun _ _ _ h => h)) <|
       sq rfl (q_move rfl) <|
       sq rfl (q_extract rfl rfl) <|
       sq rfl (q_extract rfl rfl) <|
       sq rfl (q_assign rfl) <|
       sq rfl (q_assign rfl) <|
       sq_end) ?_
     clear hF hS; intro a w hF hS
     refine hK28 _ _ ?_
     clear hK28
     refine wp_seq_k ?_; intro K29 hK29
     refine regd mixed kQ hF hS (sq rfl (q_move rfl) <|
       sq rfl (q_move rfl) <|
       sq rfl (q_move rfl) <|
       sq rfl (q_idx_row ty22 ty3 0 rfl rfl rfl (by omega)) <|
       sq rfl (q_ld_rowM ty3 0 (0 : Int) rfl rfl bQ rfl) <|
       sq rfl (q_move rfl) <|
       sq rfl (q_move rfl) <|
       sq rfl (q_idx_row ty40 ty9 1 rfl rfl rfl (by omega)) <|
       sq rfl (q_ld_rowM ty9 1 default rfl rfl bQ rfl) <|
       sq rfl (q_call fn23 rfl (fun w hS => known9_ct _ _ _ _ w (Sl.mono (hS.le (.inl hz0e)) hr2)) (fun _ _ _ h => h)) <|
       sq rfl (q_move rfl) <|
       sq rfl (q_extract rfl rfl) <|
       sq rfl (q_extract rfl rfl) <|
       sq rfl (q_assign rfl) <|
       sq rfl (q_assign rfl) <|
       sq_end) ?_
     clear hF hS; intro a w hF hS
     refine hK29 _ _ ?_
     clear hK29
     refine wp_seq_k ?_; intro K30 hK30
     refine regd mixed kQ hF hS (sq rfl (q_move rfl) <|
       sq rfl (q_move rfl) <|
       sq rfl (q_move rfl) <|
       sq rfl (q_idx_row ty22 ty3 0 rfl rfl rfl (by omega)) <|
       sq rfl (q_ld_rowM ty3 0 (0 : Int) rfl rfl bQ rfl) <|
       sq rfl (q_move rfl) <|
       sq rfl (q_move rfl) <|
       sq rfl (q_idx_row ty40 ty9 1 rfl rfl rfl (by omega)) <|
       sq rfl (q_ld_rowM ty9 1 default rfl rfl bQ rfl) <|
       sq rfl (q_call fn24 rfl (fun w hS => rknown_ct _ _ _ _ w (Sl.mono (hS.le (.inl hz0e)) hr2)) (fun _ _ _ h => h)) <|
       sq rfl (q_move rfl) <|
       sq rfl (q_extract rfl rfl) <|
       sq rfl (q_extract rfl rfl) <|
       sq rfl (q_assign rfl) <|
       sq rfl (q_assign rfl) <|
       sq_end) ?_
     clear hF hS; intro a w hF hS
     refine hK30 _ _ ?_
     clear hK30
     refine wp_seq_k ?_; intro K31 hK31
     refine reg hF hS (sq rfl (q_move rfl) <|
       sq rfl (q_move rfl) <|
       sq rfl (q_nf (q_nes rfl rfl) (by simp)) <|
       sq rfl (q_move rfl) <|
       sq_go 148 rfl rfl rfl (q_move rfl) <|
       sq_go 148 rfl rfl rfl (q_move rfl) <|
       sq_go 148 rfl rfl rfl (q_bf (q_net ty4 rfl rfl) (by simp)) <|
       sq rfl (q_pick_f rfl rfl) <|
       sq rfl (q_move rfl) <|
       sq_go 153 rfl rfl rfl (q_move rfl) <|
       sq_go 153 rfl rfl rfl (q_move rfl) <|
       sq_go 153 rfl rfl rfl (q_nf (q_nes rfl rfl) (by simp [htn.kn])) <|
       sq rfl (q_pick_f rfl rfl) <|
       sq rfl (q_move rfl) <|
       sq_go 158 rfl rfl rfl (q_move rfl) <|
       sq_go 158 rfl rfl rfl (q_move rfl) <|
       sq_go 158 rfl rfl rfl (q_bf (q_net ty4 rfl rfl) (by simp [htn.kn])) <|
       sq rfl (q_pick_f rfl rfl) <|
       sq rfl (q_move rfl) <|
       sq_go 163 rfl rfl rfl (q_move rfl) <|
       sq_go 163 rfl rfl rfl (q_move rfl) <|
       sq_go 163 rfl rfl rfl (q_nf (q_nes rfl rfl) (by simp)) <|
       sq rfl (q_pick_f rfl rfl) <|
       sq rfl (q_move rfl) <|
       sq_go 168 rfl rfl rfl (q_move rfl) <|
       sq_go 168 rfl rfl rfl (q_move rfl) <|
       sq_go 168 rfl rfl rfl (q_bf (q_net ty4 rfl rfl) (by simp)) <|
       sq rfl (q_pick_f rfl rfl) <|
       sq_end) ?_
     clear hF hS; intro a w hF hS
     refine hK31 _ _ ?_
     clear hK31
     refine wp_if hF rfl (fun h => absurd h (by simp)) (fun _ => ?_)
     refine wp_skip ?_
     refine hK25 _ _ ?_
     clear hK25
     refine reg hF hS (sq rfl (q_move rfl) <|
       sq rfl (q_addi rfl rfl (by omega)) <|
       sq rfl (q_assign rfl) <|
       sq_end) ?_
     clear hF hS; intro a w hF hS
     refine ⟨(k + 1), ?_, ?_, hF.sub ⟨rfl, rfl, rfl, rfl, rfl, rfl, rfl, trivial⟩, ?_⟩
     ·(try dsimp only); omega
     ·omega
     ·exact hS
    ·refine wp_exit ?_
     refine hK21 _ _ ?_
     clear hK21
     refine reg hF hS (sq rfl (q_move rfl) <|
       sq rfl (q_addi rfl rfl (by omega)) <|
       sq rfl (q_assign rfl) <|
       sq_end) ?_
     clear hF hS; intro a w hF hS
     refine ⟨(m + 1), ?_, ?_, hF.sub ⟨rfl, rfl, rfl, rfl, rfl, rfl, trivial⟩, ?_⟩
     ·(try dsimp only); omega
     ·omega
     ·exact hS
   ·refine wp_exit ?_
    refine hK17 _ _ ?_
    clear hK17
    refine wp_seq_k ?_; intro K32 hK32
    refine reg hF hS (sq rfl (q_call fn20 rfl (fun w hS => lives41_ct w (hS.ext _ _ hg0)) (fun _ _ _ h => h)) <|
      sq rfl (q_assign rfl) <|
      sq_end) ?_
    clear hF hS; intro a w hF hS
    refine hK32 _ _ ?_
    clear hK32
    refine wp_ret ?_
    exact fn_ret (rs := [.tmp 10]) rfl hF hS (vs := [_]) ⟨rfl, trivial⟩ zQ zQ (rfl)
end Go.Proofs.YtngcjojijaknnaaGreatDoor
