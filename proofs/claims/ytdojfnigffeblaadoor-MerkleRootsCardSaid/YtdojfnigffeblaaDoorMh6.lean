/- A text of a proof over this seat: walks over the program's functions and the plain laws that they need. -/
import Derived.Test.YtdojfnigffeblaaDoorMh5
import Derived.Test.YtdojfnigffeblaaDoorShW
import Derived.Test.YtdojfnigffeblaaDoorFwB
set_option linter.all false
namespace Go.Proofs.YtdojfnigffeblaaDoor
open Go.Fw
theorem fn39 : FnOk Tryd.prog 39 := ⟨_, Tryd.func39, rfl, by kernel_rfl⟩

set_option maxRecDepth 4000 in
set_option maxHeartbeats 2000000 in
theorem wint_ct (n : Int) (w : World) : Ct Tryd.prog 39 [vi n] w (fun v zs hs => zs = [] ∧ hs = [.row v 5 1 (Wi.int n).length ((Wi.int n).map vb)]) := by
 refine fn_enter Tryd.func39 rfl Tryd.ntmps39 (Nat.le_of_ble_eq_true rfl) fun a hF hS => ?_
 refine wp_seq_k ?_; intro K1 hK1
 refine reg hF hS (sq rfl (q_assign rfl) <|
   sq_end) ?_
 clear hF hS; intro a w hF hS
 refine hK1 _ _ ?_
 clear hK1
 refine wp_scope_straight ?_
 refine wp_seq_k ?_; intro K2 hK2
 refine reg hF hS (sq rfl (q_move rfl) <|
   sq rfl (q_cv_iq ty3 ty116 rfl) <|
   sq rfl (q_assign rfl) <|
   sq rfl (q_assign rfl) <|
   sq_end) ?_
 clear hF hS; intro a w hF hS
 refine hK2 _ _ ?_
 clear hK2
 obtain ⟨hs0, hhs0, hS⟩ : ∃ h, h = _ ∧ St _ _ h _ := ⟨_, rfl, hS⟩
 refine wp_cutx (γ := UInt64 × UInt8) (fun (gg : UInt64 × UInt8) => match gg with | (m, fl) => [(3, vq m), (4, vb fl)]) [] (fun (gg : UInt64 × UInt8) => match gg with | (m, fl) => hs0) (fun (gg : UInt64 × UInt8) => match gg with | (m, fl) => m = Wi.mOf n ∧ fl = Wi.flOf n) (hF.sub trivial) hS ?_ ?_
 ·subst hhs0
  refine wp_seq_k ?_; intro K3 hK3
  refine reg hF hS (sq rfl (q_move rfl) <|
    sq rfl (q_lti rfl rfl) <|
    sq_end) ?_
  clear hF hS; intro a w hF hS
  refine hK3 _ _ ?_
  clear hK3
  refine wp_ifd hF rfl (fun hc1 => ?_) (fun hc1 => ?_)
  ·refine reg hF hS (sq rfl (q_move rfl) <|
     sq rfl (q_notq rfl) <|
     sq rfl (q_assign rfl) <|
     sq rfl (q_assign rfl) <|
     sq_end) ?_
   clear hF hS; intro a w hF hS
   refine ⟨(~~~(ofq n), 255), ?_, hF.sub ⟨rfl, rfl, trivial⟩, ?_⟩
   ·exact ⟨by unfold Wi.mOf; rw [if_pos hc1], by unfold Wi.flOf; rw [if_pos hc1]⟩
   ·exact hS
  ·refine wp_skip ?_
   refine ⟨(ofq n, 0), ?_, hF.sub ⟨rfl, rfl, trivial⟩, ?_⟩
   ·exact ⟨by unfold Wi.mOf; rw [if_neg hc1], by unfold Wi.flOf; rw [if_neg hc1]⟩
   ·exact hS
 clear hF hS; rintro ⟨m, fl⟩ a w hfact hF hS
 subst hhs0; (try dsimp only at hfact); (try dsimp only at hF); (try dsimp only at hS)
 obtain ⟨hm, hfl⟩ := hfact
 replace hS : St _ [] [] _ := hS
 refine wp_seq_k ?_; intro K4 hK4
 refine reg hF hS (sq rfl (q_assign rfl) <|
   sq_end) ?_
 clear hF hS; intro a w hF hS
 refine hK4 _ _ ?_
 clear hK4
 refine wp_seq_k ?_; intro K5 hK5
 refine wp_label ?_
 refine hK5 _ _ ?_
 clear hK5
 obtain ⟨hs0, hhs0, hS⟩ : ∃ h, h = _ ∧ St _ _ h _ := ⟨_, rfl, hS⟩
 refine wp_cutx (γ := Nat) (fun (k : Nat) => [(5, vi (k : Int))]) [(3, _), (4, _)] (fun (k : Nat) => hs0) (fun (k : Nat) => k ≤ 8 ∧ k = Wi.nb m) (hF.sub ⟨rfl, rfl, trivial⟩) hS ?_ ?_
 ·subst hhs0
  refine wp_block ?_
  obtain ⟨hs0, hhs0, hS⟩ : ∃ h, h = _ ∧ St _ _ h _ := ⟨_, rfl, hS⟩
  refine wp_loopx (γ := Nat) (8) (fun (k : Nat) => [(5, vi (k : Int))]) [(3, _), (4, _)] (fun (k : Nat) => hs0) (fun (k : Nat) => k ≤ 8 ∧ Wi.nbF m k = Wi.nb m) (fun (k : Nat) => k) (hF.sub ⟨rfl, rfl, rfl, trivial⟩) (by subst hhs0; exact hS) (by exact ⟨Nat.le_refl _, rfl⟩) ?_
  clear hF hS; rintro k a w hfact hF hS
  subst hhs0; (try dsimp only at hfact); (try dsimp only at hF); (try dsimp only at hS)
  obtain ⟨hk8, hnb⟩ := hfact
  replace hS : St _ [] [] _ := hS
  refine wp_seq_k ?_; intro K6 hK6
  refine wp_seq_k ?_; intro K7 hK7
  refine reg hF hS (sq rfl (q_move rfl) <|
    sq rfl (q_gti rfl rfl) <|
    sq_end) ?_
  clear hF hS; intro a w hF hS
  refine hK7 _ _ ?_
  clear hK7
  refine wp_ifd hF rfl (fun hc2 => ?_) (fun hc2 => ?_)
  ·obtain ⟨k, rfl⟩ : ∃ j, k = j + 1 := ⟨k - 1, by omega⟩
   refine wp_skip ?_
   refine hK6 _ _ ?_
   clear hK6
   refine wp_block ?_
   refine wp_seq_k ?_; intro K8 hK8
   refine wp_seq_k ?_; intro K9 hK9
   refine reg hF hS (sq rfl (q_move rfl) <|
     sq rfl (q_move rfl) <|
     sq rfl (q_subi rfl rfl (by omega)) <|
     sq rfl (q_muli rfl rfl (by omega)) <|
     sq rfl (q_shrq rfl rfl (by omega)) <|
     sq rfl (q_gtq (q := 0) rfl rfl) <|
     sq_end) ?_
   clear hF hS; intro a w hF hS
   refine hK9 _ _ ?_
   clear hK9
   refine wp_ifd hF rfl (fun hc3 => ?_) (fun hc3 => ?_)
   ·rw [show ((k + 1 : Nat) : Int) - 1 = (k : Int) by omega, Wi.top_q m k (by omega)] at hc3
    refine wp_exit ?_
    refine ⟨(k + 1), ?_, hF.sub ⟨rfl, rfl, rfl, trivial⟩, ?_⟩
    ·refine ⟨hk8, ?_⟩
     rw [← hnb]
     unfold Wi.nbF
     rw [if_neg hc3]
    ·exact hS
   ·rw [show ((k + 1 : Nat) : Int) - 1 = (k : Int) by omega, Wi.top_q m k (by omega)] at hc3
    refine wp_skip ?_
    refine hK8 _ _ ?_
    clear hK8
    refine reg hF hS (sq rfl (q_move rfl) <|
      sq rfl (q_subi rfl rfl (by omega)) <|
      sq rfl (q_assign rfl) <|
      sq_end) ?_
    clear hF hS; intro a w hF hS
    rw [show ((k + 1 : Nat) : Int) - 1 = (k : Int) by omega] at hF
    refine ⟨(k), ?_, ?_, hF.sub ⟨rfl, rfl, rfl, trivial⟩, ?_⟩
    ·(try dsimp only); omega
    ·refine ⟨by omega, ?_⟩
     rw [← hnb]
     conv => rhs; unfold Wi.nbF
     rw [if_pos (Classical.not_not.1 hc3)]
    ·exact hS
  ·refine wp_exit ?_
   refine ⟨(k), ?_, hF.sub ⟨rfl, rfl, rfl, trivial⟩, ?_⟩
   ·refine ⟨hk8, ?_⟩
    obtain rfl : k = 0 := by omega
    exact hnb
   ·exact hS
 clear hF hS; rintro k a w hfact hF hS
 subst hhs0; (try dsimp only at hfact); (try dsimp only at hF); (try dsimp only at hS)
 obtain ⟨hk8, hkn⟩ := hfact
 replace hS : St _ [] [] _ := hS
 refine wp_seq_k ?_; intro K10 hK10
 refine regl ?_
 refine wpl_sq hF hS (sq rfl (q_move rfl) <|
   sq rfl (q_addi rfl rfl (by omega)) <|
   sq rfl (q_cv_ib ty3 ty5 rfl) <|
   sq rfl (q_move rfl) <|
   sq rfl (q_xorb rfl rfl) <|
   sq_end) ?_
 clear hF hS; intro a w hF hS
 refine wpl_ef hF hS rfl (ef_bsliceA ty39 ty5 rfl rfl oQ (by decide) rfl rfl) ?_
 clear hF hS; rintro v1 _ _ a w ⟨rfl, rfl⟩ hF hS
 replace hS : St _ [] [_] _ := hS
 refine wpl_sq hF hS (sq rfl (q_assign rfl) <|
   sq_end) ?_
 clear hF hS; intro a w hF hS
 refine wpList_nil ?_
 refine hK10 _ _ ?_
 clear hK10
 refine wp_seq_k ?_; intro K11 hK11
 refine wp_seq_k ?_; intro K12 hK12
 refine reg hF hS (sq rfl (q_move rfl) <|
   sq rfl (q_subi rfl rfl (by omega)) <|
   sq rfl (q_assign rfl) <|
   sq_end) ?_
 clear hF hS; intro a w hF hS
 refine hK12 _ _ ?_
 clear hK12
 refine wp_block ?_
 obtain ⟨hs0, hhs0, hS⟩ : ∃ h, h = _ ∧ St _ _ h _ := ⟨_, rfl, hS⟩
 refine wp_loopx (γ := Value × Nat) (v1, k) (fun (gg : Value × Nat) => match gg with | (v, i) => [(6, v), (7, vi ((i : Int) - 1))]) [(3, _), (4, _)] (fun (gg : Value × Nat) => match gg with | (v, i) => (hs0.set 0 (.row v 5 1 (1 + (k - i)) (((UInt8.ofNat (128 + k) ^^^ fl) :: Wi.digsFrom m fl k i).map vb)))) (fun (gg : Value × Nat) => match gg with | (v, i) => i ≤ k) (fun (gg : Value × Nat) => match gg with | (v, i) => i) (hF.sub ⟨rfl, rfl, rfl, rfl, trivial⟩) (by subst hhs0; rw [show (128 : Int) + (k : Int) = ((128 + k : Nat) : Int) by omega, Wi.ofb_nat] at hS; simpa [Wi.digsFrom] using hS) (by exact Nat.le_refl _) ?_
 clear hF hS; rintro ⟨v, i⟩ a w hfact hF hS
 subst hhs0; (try dsimp only at hfact); (try dsimp only at hF); (try dsimp only at hS)
 have hik := hfact
 replace hS : St _ [] [_] _ := hS
 refine wp_seq_k ?_; intro K13 hK13
 refine wp_seq_k ?_; intro K14 hK14
 refine reg hF hS (sq rfl (q_move rfl) <|
   sq rfl (q_gei rfl rfl) <|
   sq_end) ?_
 clear hF hS; intro a w hF hS
 refine hK14 _ _ ?_
 clear hK14
 refine wp_ifd hF rfl (fun hc4 => ?_) (fun hc4 => ?_)
 ·refine wp_skip ?_
  refine hK13 _ _ ?_
  clear hK13
  refine wp_seq_k ?_; intro K15 hK15
  refine wp_block ?_
  refine regl ?_
  refine wpl_sq hF hS (sq rfl (q_move rfl) <|
    sq rfl (q_move rfl) <|
    sq rfl (q_move rfl) <|
    sq rfl (q_muli rfl rfl (by omega)) <|
    sq rfl (q_shrq rfl rfl (by omega)) <|
    sq rfl (q_cv_qb ty116 ty5 rfl) <|
    sq rfl (q_move rfl) <|
    sq rfl (q_xorb rfl rfl) <|
    sq_end) ?_
  clear hF hS; intro a w hF hS
  refine wpl_ef hF hS rfl (ef_bsliceA ty39 ty5 rfl rfl oQ (by decide) rfl rfl) ?_
  clear hF hS; rintro v3 _ _ a w ⟨rfl, rfl⟩ hF hS
  replace hS : St _ [] [_, _] _ := hS
  refine wpl_ef hF hS rfl (ef_append ty39 ty5 1 rfl rfl rfl (src_row ty39 (k := 0) rfl oQ) bQ rfl (by decide)) ?_
  clear hF hS; rintro v5 _ _ a w ⟨rfl, rfl⟩ hF hS
  replace hS : St _ [] [_, _] _ := hS
  refine wpl_sq hF hS (sq rfl (q_assign rfl) <|
    sq_end) ?_
  clear hF hS; intro a w hF hS
  refine wpList_nil ?_
  refine hK15 _ _ ?_
  clear hK15
  refine reg hF hS (sq rfl (q_move rfl) <|
    sq rfl (q_subi rfl rfl (by omega)) <|
    sq rfl (q_assign rfl) <|
    sq_end) ?_
  clear hF hS; intro a w hF hS
  rw [show (i : Int) - 1 - 1 = ((i - 1 : Nat) : Int) - 1 by omega] at hF
  replace hS := hS.keep zQ (sQ.n)
  refine ⟨(v5, i - 1), ?_, ?_, hF.sub ⟨rfl, rfl, rfl, rfl, trivial⟩, ?_⟩
  ·(try dsimp only); omega
  ·(try dsimp only); omega
  ·rw [Wi.digit_q m fl ((i : Int) - 1) (by omega), show ((i : Int) - 1).toNat = i - 1 by omega] at hS
   have e : ((UInt8.ofNat (128 + k) ^^^ fl) :: Wi.digsFrom m fl k i).map vb ++ [vb (Wi.digit m fl (i - 1))] = ((UInt8.ofNat (128 + k) ^^^ fl) :: Wi.digsFrom m fl k (i - 1)).map vb := by rw [← Wi.digs_step m fl k (i - 1) (by omega), show i - 1 + 1 = i by omega]; simp
   rw [e, show 1 + (k - i) + 1 = 1 + (k - (i - 1)) by omega] at hS
   exact hS
 ·obtain rfl : i = 0 := by omega
  have e : (UInt8.ofNat (128 + k) ^^^ fl) :: Wi.digsFrom m fl k 0 = Wi.int n := by rw [hm, hfl, hkn, hm]; rfl
  have el : 1 + (k - 0) = (Wi.int n).length := by rw [← e]; simp [Wi.digs_len]; omega
  rw [e, el] at hS
  refine wp_exit ?_
  refine hK11 _ _ ?_
  clear hK11
  refine wp_seq_k ?_; intro K16 hK16
  refine reg hF hS (sq rfl (q_move rfl) <|
    sq rfl (q_assign rfl) <|
    sq_end) ?_
  clear hF hS; intro a w hF hS
  refine hK16 _ _ ?_
  clear hK16
  refine wp_ret ?_
  exact fn_ret (rs := [.tmp 2]) rfl hF hS (vs := [_]) ⟨rfl, trivial⟩ zQ sQ ⟨rfl, rfl⟩

set_option maxRecDepth 4000 in
set_option maxHeartbeats 2000000 in
theorem wbytes_ct (t : List UInt8) (ht : t.length < 1099511627776) (w : World) : Ct Tryd.prog 74 [vs t] w (fun v zs hs => zs = [] ∧ hs = [.row v 5 1 (Wi.bytes t).length ((Wi.bytes t).map vb)]) := by
 refine fn_enter Tryd.func74 rfl Tryd.ntmps74 (Nat.le_of_ble_eq_true rfl) fun a hF hS => ?_
 have hil := Wi.int_len9 t.length
 refine wp_seq_k ?_; intro K1 hK1
 refine reg hF hS (sq rfl (q_assign rfl) <|
   sq_end) ?_
 clear hF hS; intro a w hF hS
 refine hK1 _ _ ?_
 clear hK1
 refine wp_seq_k ?_; intro K2 hK2
 refine regl ?_
 refine wpl_sq hF hS (sq rfl (q_move rfl) <|
   sq rfl (q_len_s ty9 rfl) <|
   sq_end) ?_
 clear hF hS; intro a w hF hS
 refine wpl_ef hF hS rfl (ef_call fn39 rfl (fun w hS => wint_ct _ w )) ?_
 clear hF hS; rintro v1 _ _ a w ⟨_, _, rfl, rfl, rfl, rfl⟩ hF hS
 replace hS : St _ [] [_] _ := hS
 refine wpl_sq hF hS (sq rfl (q_move rfl) <|
   sq_end) ?_
 clear hF hS; intro a w hF hS
 refine wpl_ef hF hS rfl (ef_append ty39 ty5 0 rfl rfl rfl (src_str ty9 _) bQ rfl (by decide)) ?_
 clear hF hS; rintro v3 _ _ a w ⟨rfl, rfl⟩ hF hS
 replace hS : St _ [] [_] _ := hS
 refine wpl_sq hF hS (sq rfl (q_assign rfl) <|
   sq_end) ?_
 clear hF hS; intro a w hF hS
 refine wpList_nil ?_
 refine hK2 _ _ ?_
 clear hK2
 refine wp_ret ?_
 rw [← List.map_append, show (Wi.int t.length).length + t.length = (Wi.bytes t).length by simp [Wi.bytes]] at hS
 exact fn_ret (rs := [.tmp 2]) rfl hF hS (vs := [_]) ⟨rfl, trivial⟩ zQ sQ ⟨rfl, rfl⟩
end Go.Proofs.YtdojfnigffeblaaDoor
