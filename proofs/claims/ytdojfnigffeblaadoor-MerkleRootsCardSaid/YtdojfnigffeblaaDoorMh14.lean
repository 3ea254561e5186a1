/- A text of a proof over this seat: walks over the program's functions and the plain laws that they need. -/
import Derived.Test.YtdojfnigffeblaaDoorMh13
import Derived.Test.YtdojfnigffeblaaDoorShW
import Derived.Test.YtdojfnigffeblaaDoorFwB
set_option linter.all false
namespace Go.Proofs.YtdojfnigffeblaaDoor
open Go.Fw


set_option maxRecDepth 4000 in
set_option maxHeartbeats 2000000 in
theorem rint_ct (n : Int) (hn : -9223372036854775808 ≤ n ∧ n ≤ 9223372036854775807) (w : World) : Ct Tryd.prog 83 [vi n] w (fun v zs hs => zs = [] ∧ hs = [.row v 5 1 (Wi.int n).length ((Wi.int n).map vb)]) := by
 refine fn_enter Tryd.func83 rfl Tryd.ntmps83 (Nat.le_of_ble_eq_true rfl) fun a hF hS => ?_
 have hmm := Wi.mOf_mag n hn
 have hnb8 := Wi.nb_le (Wi.mOf n)
 refine wp_seq_k ?_; intro K1 hK1
 refine reg hF hS (sq rfl (q_assign rfl) <|
   sq_end) ?_
 clear hF hS; intro a w hF hS
 refine hK1 _ _ ?_
 clear hK1
 refine wp_seq_k ?_; intro K2 hK2
 refine reg hF hS (sq rfl (q_move rfl) <|
   sq rfl (q_assign rfl) <|
   sq_end) ?_
 clear hF hS; intro a w hF hS
 refine hK2 _ _ ?_
 clear hK2
 obtain ⟨hs0, hhs0, hS⟩ : ∃ h, h = _ ∧ St _ _ h _ := ⟨_, rfl, hS⟩
 refine wp_cutx (γ := Int) (fun (m : Int) => [(3, vi m)]) [(0, _)] (fun (m : Int) => hs0) (fun (m : Int) => m = ((Wi.mOf n).toNat : Int)) (hF.sub ⟨rfl, trivial⟩) hS ?_ ?_
 ·subst hhs0
  refine wp_seq_k ?_; intro K3 hK3
  refine reg hF hS (sq rfl (q_move rfl) <|
    sq rfl (q_lti rfl rfl) <|
    sq_end) ?_
  clear hF hS; intro a w hF hS
  refine hK3 _ _ ?_
  clear hK3
  refine wp_ifd hF rfl (fun hc1 => ?_) (fun hc1 => ?_)
  ·refine reg hF hS (sq rfl (q_move rfl) <|
     sq rfl (q_subi rfl rfl (by omega)) <|
     sq rfl (q_assign rfl) <|
     sq_end) ?_
   clear hF hS; intro a w hF hS
   refine ⟨(-1 - n), ?_, hF.sub ⟨rfl, rfl, trivial⟩, ?_⟩
   ·rw [hmm]; unfold Wi.mag; rw [if_pos hc1]
   ·exact hS
  ·refine wp_skip ?_
   refine ⟨(n), ?_, hF.sub ⟨rfl, rfl, trivial⟩, ?_⟩
   ·rw [hmm]; unfold Wi.mag; rw [if_neg hc1]
   ·exact hS
 clear hF hS; rintro m a w hfact hF hS
 subst hhs0; (try dsimp only at hfact); (try dsimp only at hF); (try dsimp only at hS)
 have hm := hfact
 replace hS : St _ [] [] _ := hS
 refine wp_seq_k ?_; intro K4 hK4
 refine reg hF hS (sq rfl (q_assign rfl) <|
   sq_end) ?_
 clear hF hS; intro a w hF hS
 replace hS := hS.nilRow 5 1
 refine hK4 _ _ ?_
 clear hK4
 refine wp_seq_k ?_; intro K5 hK5
 refine wp_block ?_
 obtain ⟨hs0, hhs0, hS⟩ : ∃ h, h = _ ∧ St _ _ h _ := ⟨_, rfl, hS⟩
 refine wp_loopx (γ := Value × Int × Nat) ((Value.slice none 0 0), m, 0) (fun (gg : Value × Int × Nat) => match gg with | (v, m, j) => [(4, v), (3, vi m)]) [(0, _)] (fun (gg : Value × Int × Nat) => match gg with | (v, m, j) => (hs0.set 0 (.row v 5 1 j ((Wi.digLE (Wi.mOf n).toNat j).map vb)))) (fun (gg : Value × Int × Nat) => match gg with | (v, m, j) => m = (((Wi.mOf n).toNat / 2 ^ (8 * j) : Nat) : Int) ∧ (∀ i, i < j → 0 < (Wi.mOf n).toNat / 2 ^ (8 * i))) (fun (gg : Value × Int × Nat) => match gg with | (v, m, j) => m.toNat) (hF.sub ⟨rfl, rfl, rfl, trivial⟩) (by subst hhs0; exact hS) (by exact ⟨by rw [hm]; simp, fun i h => absurd h (Nat.not_lt_zero _)⟩) ?_
 clear hF hS; rintro ⟨v, m, j⟩ a w hfact hF hS
 subst hhs0; (try dsimp only at hfact); (try dsimp only at hF); (try dsimp only at hS)
 obtain ⟨hm, hj⟩ := hfact
 replace hS : St _ [] [_] _ := hS
 have hj8 := Wi.nb_max _ _ hj
 have hdv := Wi.div_le (Wi.mOf n).toNat (2 ^ (8 * j))
 rw [← hm] at hdv
 have hmr : 0 ≤ m ∧ m ≤ 9223372036854775807 := by
  have hm0 : 0 ≤ m := by rw [hm]; exact Int.natCast_nonneg _
  unfold Wi.mag at hmm
  split at hmm <;> exact ⟨hm0, by omega⟩
 refine wp_seq_k ?_; intro K6 hK6
 refine wp_seq_k ?_; intro K7 hK7
 refine reg hF hS (sq rfl (q_move rfl) <|
   sq rfl (q_gti rfl rfl) <|
   sq_end) ?_
 clear hF hS; intro a w hF hS
 refine hK7 _ _ ?_
 clear hK7
 refine wp_ifd hF rfl (fun hc2 => ?_) (fun hc2 => ?_)
 ·refine wp_skip ?_
  refine hK6 _ _ ?_
  clear hK6
  refine wp_block ?_
  refine wp_seq_k ?_; intro K8 hK8
  refine regl ?_
  refine wpl_sq hF hS (sq rfl (q_move rfl) <|
    sq rfl (q_move rfl) <|
    sq rfl (q_remi rfl rfl (by omega)) <|
    sq rfl (q_cv_ib ty3 ty5 rfl) <|
    sq_end) ?_
  clear hF hS; intro a w hF hS
  refine wpl_ef hF hS rfl (ef_bsliceA ty39 ty5 rfl rfl oQ (by decide) rfl rfl) ?_
  clear hF hS; rintro v2 _ _ a w ⟨rfl, rfl⟩ hF hS
  replace hS : St _ [] [_, _] _ := hS
  refine wpl_ef hF hS rfl (ef_append ty39 ty5 1 rfl rfl rfl (src_row ty39 (k := 0) rfl oQ) bQ rfl (by decide)) ?_
  clear hF hS; rintro v4 _ _ a w ⟨rfl, rfl⟩ hF hS
  replace hS : St _ [] [_, _] _ := hS
  refine wpl_sq hF hS (sq rfl (q_assign rfl) <|
    sq_end) ?_
  clear hF hS; intro a w hF hS
  refine wpList_nil ?_
  refine hK8 _ _ ?_
  clear hK8
  refine reg hF hS (sq rfl (q_move rfl) <|
    sq rfl (q_quoi rfl rfl (by omega)) <|
    sq rfl (q_assign rfl) <|
    sq_end) ?_
  clear hF hS; intro a w hF hS
  replace hS := hS.keep zQ (sQ.n)
  refine ⟨(v4, m / 256, j + 1), ?_, ?_, hF.sub ⟨rfl, rfl, rfl, trivial⟩, ?_⟩
  ·(try dsimp only); omega
  ·refine ⟨Wi.div_step _ _ _ hm, fun i hi => ?_⟩
   rcases Nat.lt_or_ge i j with h | h
   ·exact hj i h
   ·obtain rfl : i = j := by omega
    omega
  ·have e : (Wi.digLE (Wi.mOf n).toNat j).map vb ++ [vb (ofb (m % 256))] = (Wi.digLE (Wi.mOf n).toNat (j + 1)).map vb := by rw [← Wi.digLE_step _ _ _ hm, List.map_append]; rfl
   rw [e] at hS
   exact hS
 ·have hk := Wi.nb_un (Wi.mOf n) j (by omega) hj
  obtain ⟨k, hkj⟩ : ∃ k, k = j := ⟨_, rfl⟩
  subst hkj
  refine wp_exit ?_
  refine hK5 _ _ ?_
  clear hK5
  refine wp_seq_k ?_; intro K9 hK9
  refine reg hF hS (sq rfl (q_move rfl) <|
    sq rfl (q_len_row ty39 0 rfl rfl) <|
    sq rfl (q_assign rfl) <|
    sq_end) ?_
  clear hF hS; intro a w hF hS
  refine hK9 _ _ ?_
  clear hK9
  refine wp_seq_k ?_; intro K10 hK10
  refine reg hF hS (sq rfl (q_assign rfl) <|
    sq_end) ?_
  clear hF hS; intro a w hF hS
  replace hS := hS.nilRow 5 1
  refine hK10 _ _ ?_
  clear hK10
  obtain ⟨hs0, hhs0, hS⟩ : ∃ h, h = _ ∧ St _ _ h _ := ⟨_, rfl, hS⟩
  refine wp_cutx (γ := Value) (fun (u : Value) => [(6, u)]) [(0, _), (4, _), (5, _)] (fun (u : Value) => (hs0.set 0 (.row u 5 1 1 [vb (UInt8.ofNat (128 + k) ^^^ Wi.flOf n)]))) (fun (u : Value) => True) (hF.sub ⟨rfl, rfl, rfl, trivial⟩) hS ?_ ?_
  ·subst hhs0
   refine wp_seq_k ?_; intro K11 hK11
   refine reg hF hS (sq rfl (q_move rfl) <|
     sq rfl (q_gei rfl rfl) <|
     sq_end) ?_
   clear hF hS; intro a w hF hS
   refine hK11 _ _ ?_
   clear hK11
   refine wp_ifd hF rfl (fun hc3 => ?_) (fun hc3 => ?_)
   ·refine regl ?_
    refine wpl_sq hF hS (sq rfl (q_move rfl) <|
      sq rfl (q_move rfl) <|
      sq rfl (q_addi rfl rfl (by omega)) <|
      sq rfl (q_cv_ib ty3 ty5 rfl) <|
      sq_end) ?_
    clear hF hS; intro a w hF hS
    refine wpl_ef hF hS rfl (ef_bsliceA ty39 ty5 rfl rfl oQ (by decide) rfl rfl) ?_
    clear hF hS; rintro v6 _ _ a w ⟨rfl, rfl⟩ hF hS
    replace hS : St _ [] [_, _, _] _ := hS
    refine wpl_ef hF hS rfl (ef_append ty39 ty5 1 rfl rfl rfl (src_row ty39 (k := 0) rfl oQ) bQ rfl (by decide)) ?_
    clear hF hS; rintro v8 _ _ a w ⟨rfl, rfl⟩ hF hS
    replace hS : St _ [] [_, _, _] _ := hS
    refine wpl_sq hF hS (sq rfl (q_assign rfl) <|
      sq_end) ?_
    clear hF hS; intro a w hF hS
    refine wpList_nil ?_
    replace hS := hS.perm (.swap _ _ _)
    replace hS := hS.perm (.cons _ (.swap _ _ _))
    replace hS := hS.keep zQ (zQ.k.k)
    refine ⟨(v8), ?_, hF.sub ⟨rfl, rfl, rfl, rfl, trivial⟩, ?_⟩
    ·trivial
    ·rw [show (128 : Int) + (k : Int) = ((128 + k : Nat) : Int) by omega, Wi.ofb_nat] at hS
     unfold Wi.flOf
     rw [if_neg (by omega), UInt8.xor_zero]
     exact hS
   ·refine regl ?_
    refine wpl_sq hF hS (sq rfl (q_move rfl) <|
      sq rfl (q_move rfl) <|
      sq rfl (q_subi rfl rfl (by omega)) <|
      sq rfl (q_cv_ib ty3 ty5 rfl) <|
      sq_end) ?_
    clear hF hS; intro a w hF hS
    refine wpl_ef hF hS rfl (ef_bsliceA ty39 ty5 rfl rfl oQ (by decide) rfl rfl) ?_
    clear hF hS; rintro v9 _ _ a w ⟨rfl, rfl⟩ hF hS
    replace hS : St _ [] [_, _, _] _ := hS
    refine wpl_ef hF hS rfl (ef_append ty39 ty5 1 rfl rfl rfl (src_row ty39 (k := 0) rfl oQ) bQ rfl (by decide)) ?_
    clear hF hS; rintro v11 _ _ a w ⟨rfl, rfl⟩ hF hS
    replace hS : St _ [] [_, _, _] _ := hS
    refine wpl_sq hF hS (sq rfl (q_assign rfl) <|
      sq_end) ?_
    clear hF hS; intro a w hF hS
    refine wpList_nil ?_
    replace hS := hS.perm (.swap _ _ _)
    replace hS := hS.perm (.cons _ (.swap _ _ _))
    replace hS := hS.keep zQ (zQ.k.k)
    refine ⟨(v11), ?_, hF.sub ⟨rfl, rfl, rfl, rfl, trivial⟩, ?_⟩
    ·trivial
    ·rw [Wi.head_neg k (by omega)] at hS
     unfold Wi.flOf
     rw [if_pos (by omega)]
     exact hS
  clear hF hS; rintro u a w hfact hF hS
  subst hhs0; (try dsimp only at hfact); (try dsimp only at hF); (try dsimp only at hS)
  obtain - := hfact
  replace hS : St _ [] [_, _] _ := hS
  refine wp_seq_k ?_; intro K12 hK12
  refine wp_seq_k ?_; intro K13 hK13
  refine reg hF hS (sq rfl (q_move rfl) <|
    sq rfl (q_subi rfl rfl (by omega)) <|
    sq rfl (q_assign rfl) <|
    sq_end) ?_
  clear hF hS; intro a w hF hS
  refine hK13 _ _ ?_
  clear hK13
  refine wp_block ?_
  obtain ⟨hs0, hhs0, hS⟩ : ∃ h, h = _ ∧ St _ _ h _ := ⟨_, rfl, hS⟩
  refine wp_loopx (γ := Value × Nat) (u, k) (fun (gg : Value × Nat) => match gg with | (u, i) => [(6, u), (7, vi ((i : Int) - 1))]) [(0, _), (4, _)] (fun (gg : Value × Nat) => match gg with | (u, i) => (hs0.set 0 (.row u 5 1 (1 + (k - i)) (((UInt8.ofNat (128 + k) ^^^ Wi.flOf n) :: Wi.digsFrom (Wi.mOf n) (Wi.flOf n) k i).map vb)))) (fun (gg : Value × Nat) => match gg with | (u, i) => i ≤ k) (fun (gg : Value × Nat) => match gg with | (u, i) => i) (hF.sub ⟨rfl, rfl, rfl, rfl, trivial⟩) (by subst hhs0; simpa [Wi.digsFrom] using hS) (by exact Nat.le_refl _) ?_
  clear hF hS; rintro ⟨u, i⟩ a w hfact hF hS
  subst hhs0; (try dsimp only at hfact); (try dsimp only at hF); (try dsimp only at hS)
  have hik := hfact
  replace hS : St _ [] [_, _] _ := hS
  have hdl := Wi.digLE_len (Wi.mOf n).toNat k
  refine wp_seq_k ?_; intro K14 hK14
  refine wp_seq_k ?_; intro K15 hK15
  refine reg hF hS (sq rfl (q_move rfl) <|
    sq rfl (q_gei rfl rfl) <|
    sq_end) ?_
  clear hF hS; intro a w hF hS
  refine hK15 _ _ ?_
  clear hK15
  refine wp_ifd hF rfl (fun hc4 => ?_) (fun hc4 => ?_)
  ·refine wp_skip ?_
   refine hK14 _ _ ?_
   clear hK14
   refine wp_seq_k ?_; intro K16 hK16
   refine wp_block ?_
   refine wp_seq_k ?_; intro K17 hK17
   refine reg hF hS (sq rfl (q_move rfl) <|
     sq rfl (q_move rfl) <|
     sq rfl (q_idx_row ty39 ty5 1 rfl rfl rfl (by omega)) <|
     sq rfl (q_ld_rowM ty5 1 (0 : UInt8) rfl rfl bQ rfl) <|
     sq rfl (q_assign rfl) <|
     sq_end) ?_
   clear hF hS; intro a w hF hS
   refine hK17 _ _ ?_
   clear hK17
   obtain ⟨hs0, hhs0, hS⟩ : ∃ h, h = _ ∧ St _ _ h _ := ⟨_, rfl, hS⟩
   refine wp_cutx (γ := UInt8) (fun (d : UInt8) => [(8, vb d)]) [(0, _), (4, _), (6, _), (7, _)] (fun (d : UInt8) => hs0) (fun (d : UInt8) => d = Wi.digit (Wi.mOf n) (Wi.flOf n) (i - 1)) (hF.sub ⟨rfl, rfl, rfl, rfl, trivial⟩) hS ?_ ?_
   ·subst hhs0
    refine wp_seq_k ?_; intro K18 hK18
    refine reg hF hS (sq rfl (q_move rfl) <|
      sq rfl (q_lti rfl rfl) <|
      sq_end) ?_
    clear hF hS; intro a w hF hS
    refine hK18 _ _ ?_
    clear hK18
    refine wp_ifd hF rfl (fun hc5 => ?_) (fun hc5 => ?_)
    ·refine reg hF hS (sq rfl (q_move rfl) <|
       sq rfl (q_subb (p := 255) rfl rfl) <|
       sq rfl (q_assign rfl) <|
       sq_end) ?_
     clear hF hS; intro a w hF hS
     refine ⟨(255 - (Wi.digLE (Wi.mOf n).toNat k).getD ((i : Int) - 1).toNat 0), ?_, hF.sub ⟨rfl, rfl, rfl, rfl, rfl, trivial⟩, ?_⟩
     ·rw [Wi.fl_sub, Wi.digLE_get _ _ _ (by omega), show ((i : Int) - 1).toNat = i - 1 by omega]; unfold Wi.digit Wi.flOf; rw [if_pos (by omega)]
     ·exact hS
    ·refine wp_skip ?_
     refine ⟨((Wi.digLE (Wi.mOf n).toNat k).getD ((i : Int) - 1).toNat 0), ?_, hF.sub ⟨rfl, rfl, rfl, rfl, rfl, trivial⟩, ?_⟩
     ·rw [Wi.digLE_get _ _ _ (by omega), show ((i : Int) - 1).toNat = i - 1 by omega]; unfold Wi.digit Wi.flOf; rw [if_neg (by omega), UInt8.xor_zero]
     ·exact hS
   clear hF hS; rintro d a w hfact hF hS
   subst hhs0; (try dsimp only at hfact); (try dsimp only at hF); (try dsimp only at hS)
   have hd := hfact
   replace hS : St _ [] [_, _] _ := hS
   refine regl ?_
   refine wpl_sq hF hS (sq rfl (q_move rfl) <|
     sq rfl (q_move rfl) <|
     sq_end) ?_
   clear hF hS; intro a w hF hS
   refine wpl_ef hF hS rfl (ef_bsliceA ty39 ty5 rfl rfl oQ (by decide) rfl rfl) ?_
   clear hF hS; rintro v12 _ _ a w ⟨rfl, rfl⟩ hF hS
   replace hS : St _ [] [_, _, _] _ := hS
   refine wpl_ef hF hS rfl (ef_append ty39 ty5 1 rfl rfl rfl (src_row ty39 (k := 0) rfl oQ) bQ rfl (by decide)) ?_
   clear hF hS; rintro v14 _ _ a w ⟨rfl, rfl⟩ hF hS
   replace hS : St _ [] [_, _, _] _ := hS
   refine wpl_sq hF hS (sq rfl (q_assign rfl) <|
     sq_end) ?_
   clear hF hS; intro a w hF hS
   refine wpList_nil ?_
   refine hK16 _ _ ?_
   clear hK16
   refine reg hF hS (sq rfl (q_move rfl) <|
     sq rfl (q_subi rfl rfl (by omega)) <|
     sq rfl (q_assign rfl) <|
     sq_end) ?_
   clear hF hS; intro a w hF hS
   rw [show (i : Int) - 1 - 1 = ((i - 1 : Nat) : Int) - 1 by omega] at hF
   replace hS := hS.keep zQ (sQ.n)
   refine ⟨(v14, i - 1), ?_, ?_, hF.sub ⟨rfl, rfl, rfl, rfl, trivial⟩, ?_⟩
   ·(try dsimp only); omega
   ·(try dsimp only); omega
   ·subst hd
    have e : ((UInt8.ofNat (128 + k) ^^^ Wi.flOf n) :: Wi.digsFrom (Wi.mOf n) (Wi.flOf n) k i).map vb ++ [vb (Wi.digit (Wi.mOf n) (Wi.flOf n) (i - 1))] = ((UInt8.ofNat (128 + k) ^^^ Wi.flOf n) :: Wi.digsFrom (Wi.mOf n) (Wi.flOf n) k (i - 1)).map vb := by rw [← Wi.digs_step _ _ k (i - 1) (by omega), show i - 1 + 1 = i by omega]; simp
    rw [e, show 1 + (k - i) + 1 = 1 + (k - (i - 1)) by omega] at hS
    exact hS
  ·obtain rfl : i = 0 := by omega
   have e : ((UInt8.ofNat (128 + k) ^^^ Wi.flOf n) :: Wi.digsFrom (Wi.mOf n) (Wi.flOf n) k 0) = Wi.int n := by rw [hk]; rfl
   have el : 1 + (k - 0) = (Wi.int n).length := by rw [← e]; simp [Wi.digs_len]; omega
   rw [e, el] at hS
   refine wp_exit ?_
   refine hK12 _ _ ?_
   clear hK12
   refine wp_seq_k ?_; intro K19 hK19
   refine reg hF hS (sq rfl (q_move rfl) <|
     sq rfl (q_assign rfl) <|
     sq_end) ?_
   clear hF hS; intro a w hF hS
   refine hK19 _ _ ?_
   clear hK19
   refine wp_ret ?_
   exact fn_ret (rs := [.tmp 2]) rfl hF hS (vs := [_]) ⟨rfl, trivial⟩ zQ (List.Sublist.cons_cons _ zQ) ⟨rfl, rfl⟩
end Go.Proofs.YtdojfnigffeblaaDoor
