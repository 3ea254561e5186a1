/- A text of a proof over this seat: walks over the program's functions and the plain laws that they need. -/
import Derived.Test.YtngcjojijaknnaaGreatDoorLw2
import Derived.Test.YtngcjojijaknnaaGreatDoorShW
import Derived.Test.YtngcjojijaknnaaGreatDoorFwB
set_option linter.all false
namespace Go.Proofs.YtngcjojijaknnaaGreatDoor
open Go.Fw
theorem fn15 : FnOk Tryz.prog 15 := ⟨_, Tryz.func15, rfl, by kernel_rfl⟩

attribute [local irreducible] Wi.int Wi.bytes Wi.ints Wi.strs Wi.dgs Ls.encT Wi.getInt Wi.valBE Wi.vj

set_option maxRecDepth 4000 in
set_option maxHeartbeats 2000000 in
theorem rgi_ct (v : Value) (xs : List UInt8) (w : World) (hb : Sl encB (ph w) v xs) : Ct Tryz.prog 61 [v] w (fun r _ _ => r = .tuple [vi (Wi.getInt xs).1, vi (Wi.getInt xs).2.1, vi (Wi.getInt xs).2.2].toArray) := by
 refine fn_enter Tryz.func61 rfl Tryz.ntmps61 (Nat.le_of_ble_eq_true rfl) fun a hF hS => ?_
 have hbl := hb.1
 refine wp_seq_k ?_; intro K1 hK1
 refine reg hF hS (sq rfl (q_assign rfl) <|
   sq rfl (q_assign rfl) <|
   sq rfl (q_assign rfl) <|
   sq_end) ?_
 clear hF hS; intro a w hF hS
 refine hK1 _ _ ?_
 clear hK1
 refine wp_seq_k ?_; intro K2 hK2
 refine wp_seq_k ?_; intro K3 hK3
 refine reg hF hS (sq rfl (q_move rfl) <|
   sq rfl (q_len_sl ty25 hb rfl) <|
   sq rfl (q_eqi rfl rfl) <|
   sq_end) ?_
 clear hF hS; intro a w hF hS
 refine hK3 _ _ ?_
 clear hK3
 refine wp_ifd hF rfl (fun hc1 => ?_) (fun hc1 => ?_)
 ·refine wp_seq_k ?_; intro K4 hK4
  refine reg hF hS (sq rfl (q_assign rfl) <|
    sq rfl (q_assign rfl) <|
    sq rfl (q_assign rfl) <|
    sq_end) ?_
  clear hF hS; intro a w hF hS
  refine hK4 _ _ ?_
  clear hK4
  refine wp_ret ?_
  exact fn_ret (rs := [.tmp 2, .tmp 3, .tmp 4]) rfl hF hS (vs := [_, _, _]) ⟨rfl, rfl, rfl, trivial⟩ zQ zQ (Wi.gi_eq (nil_of hc1))
 ·obtain ⟨h, t, rfl⟩ := cons_of hc1
  have hll : (h :: t).length = t.length + 1 := rfl
  have hhf := Wi.head_flip h
  obtain ⟨fl, hfl⟩ : ∃ fl, fl = Wi.flipOf h := ⟨_, rfl⟩
  obtain ⟨K, hK⟩ : ∃ K, K = (h ^^^ fl).toNat - 128 := ⟨_, rfl⟩
  have hKa : h.toNat < 128 → K = 127 - h.toNat ∧ fl = 255 := fun h9 => by obtain ⟨a1, a2⟩ := hhf.1 h9; rw [a1] at hfl; subst hfl; exact ⟨by rw [hK, a2], rfl⟩
  have hKb : ¬ h.toNat < 128 → K = h.toNat - 128 ∧ fl = 0 := fun h9 => by obtain ⟨a1, a2⟩ := hhf.2 h9; rw [a1] at hfl; subst hfl; exact ⟨by rw [hK, a2], rfl⟩
  clear hhf
  have hh8 := h.toNat_lt
  refine wp_skip ?_
  refine hK2 _ _ ?_
  clear hK2
  refine wp_seq_k ?_; intro K5 hK5
  refine reg hF hS (sq rfl (q_move rfl) <|
    sq rfl (q_idx_sl ty25 ty5 hb rfl rfl (by omega)) <|
    sq rfl (q_ld_B ty5 hb zin0 rfl rfl (by omega)) <|
    sq rfl (q_cv_bi ty5 ty3 rfl) <|
    sq rfl (q_assign rfl) <|
    sq_end) ?_
  clear hF hS; intro a w hF hS
  change Fr _ ((5, vi (h.toNat : Int)) :: _) a at hF
  refine hK5 _ _ ?_
  clear hK5
  refine wp_seq_k ?_; intro K6 hK6
  refine wp_seq_k ?_; intro K7 hK7
  refine regl ?_
  refine wpl_sq hF hS (sq rfl (q_move rfl) <|
    sq rfl (q_lti rfl rfl) <|
    sq rfl (q_move rfl) <|
    sq_end) ?_
  clear hF hS; intro a w hF hS
  refine wpl_or 2 20 2 hF hS rfl rfl rfl rfl rfl (fun hg => have hg := (by first | exact of_decide_eq_false hg | exact hg); sq_go 20 rfl rfl rfl (q_move rfl) <|
    sq_go 20 rfl rfl rfl (q_gti rfl rfl) <|
    sq_end) rfl rfl ?_
  clear hF hS; intro a w hF hS
  refine wpList_nil ?_
  refine hK7 _ _ ?_
  clear hK7
  refine wp_if hF rfl (fun hc2 => ?_) (fun hc2 => ?_)
  ·(try simp only [Bool.or_eq_true, Bool.and_eq_true, Bool.or_eq_false_iff, Bool.and_eq_false_iff, decide_eq_true_eq, decide_eq_false_iff_not, Bool.not_eq_true', Bool.not_eq_false'] at hc2)
   have h8 : 8 < K := by
    by_cases h9 : h.toNat < 128
    ·have := (hKa h9).1; omega
    ·have := (hKb h9).1; omega
   refine wp_seq_k ?_; intro K8 hK8
   refine reg hF hS (sq rfl (q_assign rfl) <|
     sq rfl (q_assign rfl) <|
     sq rfl (q_assign rfl) <|
     sq_end) ?_
   clear hF hS; intro a w hF hS
   refine hK8 _ _ ?_
   clear hK8
   refine wp_ret ?_
   exact fn_ret (rs := [.tmp 2, .tmp 3, .tmp 4]) rfl hF hS (vs := [_, _, _]) ⟨rfl, rfl, rfl, trivial⟩ zQ zQ (Wi.gi_eq (Wi.gi_big hfl hK h8))
  ·(try simp only [Bool.or_eq_true, Bool.and_eq_true, Bool.or_eq_false_iff, Bool.and_eq_false_iff, decide_eq_true_eq, decide_eq_false_iff_not, Bool.not_eq_true', Bool.not_eq_false'] at hc2)
   have h8 : ¬ 8 < K := by
    by_cases h9 : h.toNat < 128
    ·have := (hKa h9).1; omega
    ·have := (hKb h9).1; omega
   refine wp_skip ?_
   refine hK6 _ _ ?_
   clear hK6
   refine wp_seq_k ?_; intro K9 hK9
   refine reg hF hS (sq rfl (q_move rfl) <|
     sq rfl (q_subi rfl rfl (by omega)) <|
     sq rfl (q_assign rfl) <|
     sq_end) ?_
   clear hF hS; intro a w hF hS
   refine hK9 _ _ ?_
   clear hK9
   obtain ⟨hs0, hhs0, hS⟩ : ∃ h, h = _ ∧ St _ _ h _ := ⟨_, rfl, hS⟩
   refine wp_cutx (γ := Int) (fun (k : Int) => [(6, vi k)]) [(0, _), (5, _)] (fun (k : Int) => hs0) (fun (k : Int) => k = (K : Int)) (hF.sub ⟨rfl, rfl, trivial⟩) hS ?_ ?_
   ·subst hhs0
    refine wp_seq_k ?_; intro K10 hK10
    refine reg hF hS (sq rfl (q_move rfl) <|
      sq rfl (q_lti rfl rfl) <|
      sq_end) ?_
    clear hF hS; intro a w hF hS
    refine hK10 _ _ ?_
    clear hK10
    refine wp_ifd hF rfl (fun hc3 => ?_) (fun hc3 => ?_)
    ·refine reg hF hS (sq rfl (q_move rfl) <|
       sq rfl (q_subi rfl rfl (by omega)) <|
       sq rfl (q_assign rfl) <|
       sq_end) ?_
     clear hF hS; intro a w hF hS
     refine ⟨(127 - (h.toNat : Int)), ?_, hF.sub ⟨rfl, rfl, rfl, trivial⟩, ?_⟩
     ·have := (hKa (by omega)).1
      omega
     ·exact hS
    ·refine wp_skip ?_
     refine ⟨((h.toNat : Int) - 128), ?_, hF.sub ⟨rfl, rfl, rfl, trivial⟩, ?_⟩
     ·have := (hKb (by omega)).1
      omega
     ·exact hS
   clear hF hS; rintro k a w hfact hF hS
   subst hhs0; (try dsimp only at hfact); (try dsimp only at hF); (try dsimp only at hS)
   have hk := hfact
   replace hS : St _ [] [] _ := hS
   subst hk
   refine wp_seq_k ?_; intro K11 hK11
   refine wp_seq_k ?_; intro K12 hK12
   refine reg hF hS (sq rfl (q_move rfl) <|
     sq rfl (q_len_sl ty25 hb rfl) <|
     sq rfl (q_move rfl) <|
     sq rfl (q_addi rfl rfl (by omega)) <|
     sq rfl (q_lti rfl rfl) <|
     sq_end) ?_
   clear hF hS; intro a w hF hS
   refine hK12 _ _ ?_
   clear hK12
   refine wp_ifd hF rfl (fun hc4 => ?_) (fun hc4 => ?_)
   ·have hlt : t.length < K := by omega
    refine wp_seq_k ?_; intro K13 hK13
    refine reg hF hS (sq rfl (q_assign rfl) <|
      sq rfl (q_assign rfl) <|
      sq rfl (q_assign rfl) <|
      sq_end) ?_
    clear hF hS; intro a w hF hS
    refine hK13 _ _ ?_
    clear hK13
    refine wp_ret ?_
    exact fn_ret (rs := [.tmp 2, .tmp 3, .tmp 4]) rfl hF hS (vs := [_, _, _]) ⟨rfl, rfl, rfl, trivial⟩ zQ zQ (Wi.gi_eq (Wi.gi_more hfl hK h8 hlt))
   ·have hlt : ¬ t.length < K := by omega
    refine wp_skip ?_
    refine hK11 _ _ ?_
    clear hK11
    refine wp_seq_k ?_; intro K14 hK14
    refine reg hF hS (sq rfl (q_assign rfl) <|
      sq_end) ?_
    clear hF hS; intro a w hF hS
    refine hK14 _ _ ?_
    clear hK14
    refine wp_seq_k ?_; intro K15 hK15
    refine wp_seq_k ?_; intro K16 hK16
    refine reg hF hS (sq rfl (q_assign rfl) <|
      sq_end) ?_
    clear hF hS; intro a w hF hS
    refine hK16 _ _ ?_
    clear hK16
    refine wp_block ?_
    obtain ⟨hs0, hhs0, hS⟩ : ∃ h, h = _ ∧ St _ _ h _ := ⟨_, rfl, hS⟩
    refine wp_loopx (γ := Int × Int) (0, 1) (fun (gg : Int × Int) => match gg with | (m, i) => [(7, vi m), (8, vi i)]) [(0, _), (5, _), (6, _)] (fun (gg : Int × Int) => match gg with | (m, i) => hs0) (fun (gg : Int × Int) => match gg with | (m, i) => 1 ≤ i ∧ i ≤ (K : Int) + 1 ∧ m = (Wi.vj t fl K (i - 1).toNat : Int) ∧ m ≤ 9223372036854775807) (fun (gg : Int × Int) => match gg with | (m, i) => ((K : Int) + 1 - i).toNat) (hF.sub ⟨rfl, rfl, rfl, rfl, rfl, trivial⟩) (by subst hhs0; exact hS) (by exact ⟨Int.le_refl _, by omega, by rw [show ((1 : Int) - 1).toNat = 0 from rfl, Wi.vj_0]; rfl, by omega⟩) ?_
    clear hF hS; rintro ⟨m, i⟩ a w hfact hF hS
    subst hhs0; (try dsimp only at hfact); (try dsimp only at hF); (try dsimp only at hS)
    obtain ⟨hi0, hi1, hmv, hmx⟩ := hfact
    replace hS : St _ [] [] _ := hS
    have hm0 : 0 ≤ m := by omega
    refine wp_seq_k ?_; intro K17 hK17
    refine wp_seq_k ?_; intro K18 hK18
    refine reg hF hS (sq rfl (q_move rfl) <|
      sq rfl (q_move rfl) <|
      sq rfl (q_lei rfl rfl) <|
      sq_end) ?_
    clear hF hS; intro a w hF hS
    refine hK18 _ _ ?_
    clear hK18
    refine wp_ifd hF rfl (fun hc5 => ?_) (fun hc5 => ?_)
    ·refine wp_skip ?_
     refine hK17 _ _ ?_
     clear hK17
     refine wp_seq_k ?_; intro K19 hK19
     refine wp_block ?_
     refine wp_seq_k ?_; intro K20 hK20
     refine reg hF hS (sq rfl (q_move rfl) <|
       sq rfl (q_move rfl) <|
       sq rfl (q_idx_sl ty25 ty5 hb rfl rfl (by omega)) <|
       sq rfl (q_ld_B ty5 hb zin0 rfl rfl (by omega)) <|
       sq rfl (q_cv_bi ty5 ty3 rfl) <|
       sq rfl (q_assign rfl) <|
       sq_end) ?_
     clear hF hS; intro a w hF hS
     have hx8 := toNat8 ((h :: t).getD i.toNat 0)
     refine hK20 _ _ ?_
     clear hK20
     obtain ⟨hs0, hhs0, hS⟩ : ∃ h, h = _ ∧ St _ _ h _ := ⟨_, rfl, hS⟩
     refine wp_cutx (γ := Int) (fun (dd : Int) => [(9, vi dd)]) [(0, _), (5, _), (6, _), (7, _), (8, _)] (fun (dd : Int) => hs0) (fun (dd : Int) => dd = (((h :: t).getD i.toNat 0 ^^^ fl).toNat : Int)) (hF.sub ⟨rfl, rfl, rfl, rfl, rfl, trivial⟩) hS ?_ ?_
     ·subst hhs0
      refine wp_seq_k ?_; intro K21 hK21
      refine reg hF hS (sq rfl (q_move rfl) <|
        sq rfl (q_lti rfl rfl) <|
        sq_end) ?_
      clear hF hS; intro a w hF hS
      refine hK21 _ _ ?_
      clear hK21
      refine wp_ifd hF rfl (fun hc6 => ?_) (fun hc6 => ?_)
      ·refine reg hF hS (sq rfl (q_move rfl) <|
         sq rfl (q_subi rfl rfl (by omega)) <|
         sq rfl (q_assign rfl) <|
         sq_end) ?_
       clear hF hS; intro a w hF hS
       refine ⟨(255 - (((h :: t).getD i.toNat 0).toNat : Int)), ?_, hF.sub ⟨rfl, rfl, rfl, rfl, rfl, rfl, trivial⟩, ?_⟩
       ·rw [(hKa (by omega)).2]; exact Wi.sub_flip _
       ·exact hS
      ·refine wp_skip ?_
       refine ⟨((((h :: t).getD i.toNat 0).toNat : Int)), ?_, hF.sub ⟨rfl, rfl, rfl, rfl, rfl, rfl, trivial⟩, ?_⟩
       ·rw [(hKb (by omega)).2, UInt8.xor_zero]
       ·exact hS
     clear hF hS; rintro dd a w hfact hF hS
     subst hhs0; (try dsimp only at hfact); (try dsimp only at hF); (try dsimp only at hS)
     have hdd := hfact
     replace hS : St _ [] [] _ := hS
     have hd8 := toNat8 ((h :: t).getD i.toNat 0 ^^^ fl)
     refine wp_seq_k ?_; intro K22 hK22
     refine wp_seq_k ?_; intro K23 hK23
     refine reg hF hS (sq rfl (q_move rfl) <|
       sq rfl (q_gti rfl rfl) <|
       sq_end) ?_
     clear hF hS; intro a w hF hS
     refine hK23 _ _ ?_
     clear hK23
     refine wp_ifd hF rfl (fun hc7 => ?_) (fun hc7 => ?_)
     ·have hmm := Wi.vj_mono t fl K (i - 1).toNat (by omega) (by omega)
      have hmb : 9223372036854775808 ≤ Wi.vj t fl K K := by omega
      refine wp_seq_k ?_; intro K24 hK24
      refine reg hF hS (sq rfl (q_assign rfl) <|
        sq rfl (q_assign rfl) <|
        sq rfl (q_assign rfl) <|
        sq_end) ?_
      clear hF hS; intro a w hF hS
      refine hK24 _ _ ?_
      clear hK24
      refine wp_ret ?_
      exact fn_ret (rs := [.tmp 2, .tmp 3, .tmp 4]) rfl hF hS (vs := [_, _, _]) ⟨rfl, rfl, rfl, trivial⟩ zQ zQ (Wi.gi_eq (Wi.gi_high hfl hK h8 hlt (by rw [← Wi.vj_K]; exact hmb)))
     ·refine wp_skip ?_
      refine hK22 _ _ ?_
      clear hK22
      refine reg hF hS (sq rfl (q_move rfl) <|
        sq rfl (q_muli rfl rfl (by omega)) <|
        sq rfl (q_move rfl) <|
        sq rfl (q_addi rfl rfl (by omega)) <|
        sq rfl (q_assign rfl) <|
        sq_end) ?_
      clear hF hS; intro a w hF hS
      refine hK19 _ _ ?_
      clear hK19
      refine reg hF hS (sq rfl (q_move rfl) <|
        sq rfl (q_addi rfl rfl (by omega)) <|
        sq rfl (q_assign rfl) <|
        sq_end) ?_
      clear hF hS; intro a w hF hS
      refine ⟨(256 * m + dd, i + 1), ?_, ?_, hF.sub ⟨rfl, rfl, rfl, rfl, rfl, trivial⟩, ?_⟩
      ·(try dsimp only); omega
      ·refine ⟨by omega, by omega, ?_, by omega⟩
       have hvs := Wi.vj_succ t fl K (i - 1).toNat (by omega) (by omega)
       rw [show (i + 1 - 1).toNat = (i - 1).toNat + 1 by omega, hvs]
       obtain ⟨j, hj⟩ : ∃ j : Nat, i = (j : Int) + 1 := ⟨(i - 1).toNat, by omega⟩
       subst hj
       rw [show ((j : Int) + 1).toNat = j + 1 by omega, List.getD_cons_succ] at hdd
       rw [show ((j : Int) + 1 - 1).toNat = j by omega] at hmv ⊢
       omega
      ·exact hS
    ·have hiK : i = (K : Int) + 1 := by omega
     have hmK : m = (Wi.vj t fl K K : Int) := by rw [hmv, hiK, show ((K : Int) + 1 - 1).toNat = K by omega]
     clear hmv
     have hmb : ¬ 9223372036854775808 ≤ Wi.vj t fl K K := by omega
     refine wp_exit ?_
     refine hK15 _ _ ?_
     clear hK15
     refine wp_seq_k ?_; intro K25 hK25
     refine reg hF hS (sq rfl (q_move rfl) <|
       sq rfl (q_assign rfl) <|
       sq_end) ?_
     clear hF hS; intro a w hF hS
     refine hK25 _ _ ?_
     clear hK25
     obtain ⟨hs0, hhs0, hS⟩ : ∃ h, h = _ ∧ St _ _ h _ := ⟨_, rfl, hS⟩
     refine wp_cutx (γ := Int) (fun (nn : Int) => [(10, vi nn)]) [(0, _), (6, _)] (fun (nn : Int) => hs0) (fun (nn : Int) => nn = if fl = 0 then m else -1 - m) (hF.sub ⟨rfl, rfl, trivial⟩) hS ?_ ?_
     ·subst hhs0
      refine wp_seq_k ?_; intro K26 hK26
      refine reg hF hS (sq rfl (q_move rfl) <|
        sq rfl (q_lti rfl rfl) <|
        sq_end) ?_
      clear hF hS; intro a w hF hS
      refine hK26 _ _ ?_
      clear hK26
      refine wp_ifd hF rfl (fun hc8 => ?_) (fun hc8 => ?_)
      ·refine reg hF hS (sq rfl (q_move rfl) <|
         sq rfl (q_subi rfl rfl (by omega)) <|
         sq rfl (q_assign rfl) <|
         sq_end) ?_
       clear hF hS; intro a w hF hS
       refine ⟨(-1 - m), ?_, hF.sub ⟨rfl, rfl, rfl, trivial⟩, ?_⟩
       ·rw [(hKa (by omega)).2, if_neg (by decide)]
       ·exact hS
      ·refine wp_skip ?_
       refine ⟨(m), ?_, hF.sub ⟨rfl, rfl, rfl, trivial⟩, ?_⟩
       ·rw [(hKb (by omega)).2, if_pos rfl]
       ·exact hS
     clear hF hS; rintro nn a w hfact hF hS
     subst hhs0; (try dsimp only at hfact); (try dsimp only at hF); (try dsimp only at hS)
     have hnn := hfact
     replace hS : St _ [] [] _ := hS
     have hnr : -9223372036854775808 ≤ nn ∧ nn ≤ 9223372036854775807 := by rw [hnn]; split <;> omega
     have hil := Wi.int_len9 nn
     refine wp_seq_k ?_; intro K27 hK27
     refine wp_seq_k ?_; intro K28 hK28
     revert hS; revert hF; apply regJ (J := J1 (α0 := Value) 71 _ _ _ _ _) #[false, false, false, false, false, false, false, false] 8 mixed rfl rfl
     ·intro w hF hS
      refine goW_take 0 _ rfl kQ rfl hF (hS.keep sQ zQ) (q_move rfl) ?_
      clear hF; intro a hF
      refine goW_take 2 _ rfl kQ rfl hF (hS.keep sQ zQ) (q_move rfl) ?_
      clear hF; intro a hF
      refine goW_take 3 _ rfl kQ rfl hF (hS.keep sQ zQ) (q_move rfl) ?_
      clear hF; intro a hF
      refine goW_take 4 _ rfl kQ rfl hF (hS.keep sQ zQ) (q_addi rfl rfl (by omega)) ?_
      clear hF; intro a hF
      refine goW_take 5 _ rfl kQ rfl hF (hS.keep sQ zQ) (q_slsl_hi ty25 ty5 hb rfl rfl (by omega)) ?_
      clear hF; intro a hF
      refine gQ 1 rfl rfl hF hS rfl (ef_call fn54 rfl (fun w hS => rint_ct _ (by omega) w )) ?_
      clear hF hS; rintro v_24_1 _ _ a w ⟨_, _, rfl, rfl, rfl, rfl⟩ hF hS
      refine ⟨⟨.inr hS.k0, .inr hS.k0, .inr hS.k0, .inr hS.k0, iQ, trivial⟩, ?_⟩
      refine gQ 6 rfl rfl hF hS rfl (ef_qt (q_call fn15 rfl (fun w hS => same_ct _ _ _ _ w (own_slV (hS.own _ (List.mem_of_getElem? (i := 0) rfl)).1 (by first | assumption | (simp; done)) (by first | rfl | (simp; done) | (simp; omega) | omega) (by first | omega | (simp; omega))) (Sl.mono (hS.le zin0) (Sl.cut hb (by omega)))) (fun _ _ _ h => h))) ?_
      clear hF hS; rintro _ _ _ a w ⟨rfl, rfl, rfl⟩ hF hS
      refine ⟨⟨iQ, iQ, .inr hS.k0, iQ, iQ, trivial⟩, ?_⟩
      refine goW_take 7 _ rfl kQ rfl hF (hS.keep sQ zQ) (q_not rfl) ?_
      clear hF; intro a hF
      exact goW_done kQ (j1_mk v_24_1 (trivial) (hF.sub (L' := [(6, _), (10, _), (67, _)]) ⟨rfl, rfl, rfl, trivial⟩) hS)
     rintro a w ⟨v_24_1, -, hF, hS⟩
     (try dsimp only at hF); (try dsimp only at hS)
     refine hK28 _ _ ?_
     clear hK28
     refine wp_ifn hF rfl (fun hc9 => ?_) (fun hc9 => ?_)
     ·rw [List.drop_zero, show ((K : Int) + 1).toNat = K + 1 by omega] at hc9
      refine wp_seq_k ?_; intro K29 hK29
      refine reg hF hS (sq rfl (q_assign rfl) <|
        sq rfl (q_assign rfl) <|
        sq rfl (q_assign rfl) <|
        sq_end) ?_
      clear hF hS; intro a w hF hS
      refine hK29 _ _ ?_
      clear hK29
      refine wp_ret ?_
      exact fn_ret (rs := [.tmp 2, .tmp 3, .tmp 4]) rfl hF hS (vs := [_, _, _]) ⟨rfl, rfl, rfl, trivial⟩ zQ zQ (Wi.gi_eq (Wi.ref_bad hfl hK h8 hlt hmb (by rw [hnn, hmK]) hc9))
     ·rw [List.drop_zero, show ((K : Int) + 1).toNat = K + 1 by omega] at hc9
      refine wp_skip ?_
      refine hK27 _ _ ?_
      clear hK27
      refine wp_seq_k ?_; intro K30 hK30
      refine reg hF hS (sq rfl (q_move rfl) <|
        sq rfl (q_move rfl) <|
        sq rfl (q_addi rfl rfl (by omega)) <|
        sq rfl (q_assign rfl) <|
        sq rfl (q_assign rfl) <|
        sq rfl (q_assign rfl) <|
        sq_end) ?_
      clear hF hS; intro a w hF hS
      refine hK30 _ _ ?_
      clear hK30
      refine wp_ret ?_
      exact fn_ret (rs := [.tmp 2, .tmp 3, .tmp 4]) rfl hF hS (vs := [_, _, _]) ⟨rfl, rfl, rfl, trivial⟩ zQ zQ (Wi.gi_eq (Wi.ref_ok hnr (by omega) hc9))
end Go.Proofs.YtngcjojijaknnaaGreatDoor
