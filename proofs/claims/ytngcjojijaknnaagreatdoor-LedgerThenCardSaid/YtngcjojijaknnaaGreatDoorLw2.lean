/- A text of a proof over this seat: walks over the program's functions and the plain laws that they need. -/
import Derived.Test.YtngcjojijaknnaaGreatDoorLw1
import Derived.Test.YtngcjojijaknnaaGreatDoorShW
import Derived.Test.YtngcjojijaknnaaGreatDoorFwB
set_option linter.all false
namespace Go.Proofs.YtngcjojijaknnaaGreatDoor
open Go.Fw


attribute [local irreducible] Wi.int Wi.bytes Wi.ints Wi.strs Wi.dgs Ls.encT Wi.getInt Wi.valBE Wi.vj

theorem gi_nil : Wi.getInt [] = (0, 0, 3) := by unfold Wi.getInt; rfl
theorem cons_of {xs : List UInt8} (h : ¬ (xs.length : Int) = 0) : ∃ a t, xs = a :: t := by
 cases xs with
 | nil => simp at h
 | cons a t => exact ⟨a, t, rfl⟩
theorem nil_of {xs : List UInt8} (h : (xs.length : Int) = 0) : Wi.getInt xs = (0, 0, 3) := by
 have : xs = [] := List.eq_nil_of_length_eq_zero (by omega)
 rw [this]; exact gi_nil

set_option maxRecDepth 4000 in
set_option maxHeartbeats 2000000 in
theorem wgi_ct (v : Value) (xs : List UInt8) (w : World) (hb : Sl encB (ph w) v xs) : Ct Tryz.prog 59 [v] w (fun r _ _ => r = .tuple [vi (Wi.getInt xs).1, vi (Wi.getInt xs).2.1, vi (Wi.getInt xs).2.2].toArray) := by
 refine fn_enter Tryz.func59 rfl Tryz.ntmps59 (Nat.le_of_ble_eq_true rfl) fun a hF hS => ?_
 have hbl := hb.1
 refine wp_seq_k ?_; intro K1 hK1
 refine reg hF hS (sq rfl (q_assign rfl) <|
   sq rfl (q_assign rfl) <|
   sq rfl (q_assign rfl) <|
   sq_end) ?_
 clear hF hS; intro a w hF hS
 refine hK1 _ _ ?_
 clear hK1
 refine wp_seq_k ?_; intro K2 hK2
 refine wp_seq_k ?_; intro K3 hK3
 refine reg hF hS (sq rfl (q_move rfl) <|
   sq rfl (q_len_sl ty25 hb rfl) <|
   sq rfl (q_eqi rfl rfl) <|
   sq_end) ?_
 clear hF hS; intro a w hF hS
 refine hK3 _ _ ?_
 clear hK3
 refine wp_ifd hF rfl (fun hc1 => ?_) (fun hc1 => ?_)
 ·refine wp_seq_k ?_; intro K4 hK4
  refine reg hF hS (sq rfl (q_assign rfl) <|
    sq rfl (q_assign rfl) <|
    sq rfl (q_assign rfl) <|
    sq_end) ?_
  clear hF hS; intro a w hF hS
  refine hK4 _ _ ?_
  clear hK4
  refine wp_ret ?_
  exact fn_ret (rs := [.tmp 2, .tmp 3, .tmp 4]) rfl hF hS (vs := [_, _, _]) ⟨rfl, rfl, rfl, trivial⟩ zQ zQ (Wi.gi_eq (nil_of hc1))
 ·obtain ⟨h, t, rfl⟩ := cons_of hc1
  have hll : (h :: t).length = t.length + 1 := rfl
  refine wp_skip ?_
  refine hK2 _ _ ?_
  clear hK2
  refine wp_seq_k ?_; intro K5 hK5
  refine reg hF hS (sq rfl (q_assign rfl) <|
    sq_end) ?_
  clear hF hS; intro a w hF hS
  refine hK5 _ _ ?_
  clear hK5
  obtain ⟨hs0, hhs0, hS⟩ : ∃ h, h = _ ∧ St _ _ h _ := ⟨_, rfl, hS⟩
  refine wp_cutx (γ := UInt8) (fun (fl : UInt8) => [(5, vb fl)]) [(0, _)] (fun (fl : UInt8) => hs0) (fun (fl : UInt8) => fl = Wi.flipOf h) (hF.sub ⟨rfl, trivial⟩) hS ?_ ?_
  ·subst hhs0
   refine wp_seq_k ?_; intro K6 hK6
   refine reg hF hS (sq rfl (q_move rfl) <|
     sq rfl (q_idx_sl ty25 ty5 hb rfl rfl (by omega)) <|
     sq rfl (q_ld_B ty5 hb zin0 rfl rfl (by omega)) <|
     sq rfl (q_ltb (q := 128) rfl rfl) <|
     sq_end) ?_
   clear hF hS; intro a w hF hS
   refine hK6 _ _ ?_
   clear hK6
   refine wp_ifd hF rfl (fun hc2 => ?_) (fun hc2 => ?_)
   ·refine reg hF hS (sq rfl (q_assign rfl) <|
      sq_end) ?_
    clear hF hS; intro a w hF hS
    refine ⟨(255), ?_, hF.sub ⟨rfl, rfl, trivial⟩, ?_⟩
    ·unfold Wi.flipOf; rw [if_pos (show h < 128 from hc2)]
    ·exact hS
   ·refine wp_skip ?_
    refine ⟨(0), ?_, hF.sub ⟨rfl, rfl, trivial⟩, ?_⟩
    ·unfold Wi.flipOf; rw [if_neg (show ¬ h < 128 from hc2)]
    ·exact hS
  clear hF hS; rintro fl a w hfact hF hS
  subst hhs0; (try dsimp only at hfact); (try dsimp only at hF); (try dsimp only at hS)
  have hfl := hfact
  replace hS : St _ [] [] _ := hS
  have h88 := toNat8 ((h :: t).getD (Int.toNat 0) 0 ^^^ fl)
  refine wp_seq_k ?_; intro K7 hK7
  refine reg hF hS (sq rfl (q_move rfl) <|
    sq rfl (q_idx_sl ty25 ty5 hb rfl rfl (by omega)) <|
    sq rfl (q_ld_B ty5 hb zin0 rfl rfl (by omega)) <|
    sq rfl (q_move rfl) <|
    sq rfl (q_xorb rfl rfl) <|
    sq rfl (q_cv_bi ty5 ty3 rfl) <|
    sq rfl (q_subi rfl rfl (by omega)) <|
    sq rfl (q_assign rfl) <|
    sq_end) ?_
  clear hF hS; intro a w hF hS
  have hge := Wi.flip_ge h
  rw [← hfl] at hge
  obtain ⟨K, hK⟩ : ∃ K : Nat, K = (h ^^^ fl).toNat - 128 := ⟨_, rfl⟩
  change Fr _ ((6, vi (((h ^^^ fl).toNat : Int) - 128)) :: _) a at hF
  rw [show (((h ^^^ fl).toNat : Int) - 128) = (K : Int) by omega] at hF
  refine hK7 _ _ ?_
  clear hK7
  refine wp_seq_k ?_; intro K8 hK8
  refine wp_block ?_
  refine wp_seq_k ?_; intro K9 hK9
  refine reg hF hS (sq rfl (q_move rfl) <|
    sq rfl (q_gti rfl rfl) <|
    sq rfl (q_assign rfl) <|
    sq_end) ?_
  clear hF hS; intro a w hF hS
  refine hK9 _ _ ?_
  clear hK9
  refine wp_ifd hF rfl (fun hc3 => ?_) (fun hc3 => ?_)
  ·refine wp_seq_k ?_; intro K10 hK10
   refine reg hF hS (sq rfl (q_assign rfl) <|
     sq rfl (q_assign rfl) <|
     sq rfl (q_assign rfl) <|
     sq_end) ?_
   clear hF hS; intro a w hF hS
   refine hK10 _ _ ?_
   clear hK10
   refine wp_ret ?_
   exact fn_ret (rs := [.tmp 2, .tmp 3, .tmp 4]) rfl hF hS (vs := [_, _, _]) ⟨rfl, rfl, rfl, trivial⟩ zQ zQ (Wi.gi_eq (Wi.gi_big hfl hK (by omega)))
  ·have h8 : ¬ 8 < K := by omega
   refine wp_seq_k ?_; intro K11 hK11
   refine reg hF hS (sq rfl (q_move rfl) <|
     sq rfl (q_len_sl ty25 hb rfl) <|
     sq rfl (q_move rfl) <|
     sq rfl (q_lei rfl rfl) <|
     sq rfl (q_assign rfl) <|
     sq_end) ?_
   clear hF hS; intro a w hF hS
   refine hK11 _ _ ?_
   clear hK11
   refine wp_ifd hF rfl (fun hc4 => ?_) (fun hc4 => ?_)
   ·have hlt : t.length < K := by omega
    refine wp_seq_k ?_; intro K12 hK12
    refine reg hF hS (sq rfl (q_assign rfl) <|
      sq rfl (q_assign rfl) <|
      sq rfl (q_assign rfl) <|
      sq_end) ?_
    clear hF hS; intro a w hF hS
    refine hK12 _ _ ?_
    clear hK12
    refine wp_ret ?_
    exact fn_ret (rs := [.tmp 2, .tmp 3, .tmp 4]) rfl hF hS (vs := [_, _, _]) ⟨rfl, rfl, rfl, trivial⟩ zQ zQ (Wi.gi_eq (Wi.gi_more hfl hK h8 hlt))
   ·have hlt : ¬ t.length < K := by omega
    refine wp_seq_k ?_; intro K13 hK13
    refine regl ?_
    refine wpl_sq hF hS (sq rfl (q_move rfl) <|
      sq rfl (q_gti rfl rfl) <|
      sq rfl (q_move rfl) <|
      sq_end) ?_
    clear hF hS; intro a w hF hS
    refine wpl_and 2 35 6 hF hS rfl rfl rfl rfl rfl (fun hg => have hg := (by first | exact of_decide_eq_true hg | exact hg); sq_go 35 rfl rfl rfl (q_move rfl) <|
      sq_go 35 rfl rfl rfl (q_idx_sl ty25 ty5 hb rfl rfl (by omega)) <|
      sq_go 35 rfl rfl rfl (q_ld_B ty5 hb zin0 rfl rfl (by omega)) <|
      sq_go 35 rfl rfl rfl (q_move rfl) <|
      sq_go 35 rfl rfl rfl (q_xorb rfl rfl) <|
      sq_go 35 rfl rfl rfl (q_eqb (q := 0) rfl rfl) <|
      sq_end) rfl rfl ?_
    clear hF hS; intro a w hF hS
    refine wpl_sq hF hS (sq rfl (q_assign rfl) <|
      sq_end) ?_
    clear hF hS; intro a w hF hS
    refine wpList_nil ?_
    refine hK13 _ _ ?_
    clear hK13
    refine wp_if hF rfl (fun hc5 => ?_) (fun hc5 => ?_)
    ·(try simp only [Bool.or_eq_true, Bool.and_eq_true, Bool.or_eq_false_iff, Bool.and_eq_false_iff, decide_eq_true_eq, decide_eq_false_iff_not, Bool.not_eq_true', Bool.not_eq_false'] at hc5)
     have h0 : 0 < K ∧ t.getD 0 0 ^^^ fl = 0 := ⟨by omega, hc5.2⟩
     refine wp_seq_k ?_; intro K14 hK14
     refine reg hF hS (sq rfl (q_assign rfl) <|
       sq rfl (q_assign rfl) <|
       sq rfl (q_assign rfl) <|
       sq_end) ?_
     clear hF hS; intro a w hF hS
     refine hK14 _ _ ?_
     clear hK14
     refine wp_ret ?_
     exact fn_ret (rs := [.tmp 2, .tmp 3, .tmp 4]) rfl hF hS (vs := [_, _, _]) ⟨rfl, rfl, rfl, trivial⟩ zQ zQ (Wi.gi_eq (Wi.gi_zero hfl hK h8 hlt h0))
    ·(try simp only [Bool.or_eq_true, Bool.and_eq_true, Bool.or_eq_false_iff, Bool.and_eq_false_iff, decide_eq_true_eq, decide_eq_false_iff_not, Bool.not_eq_true', Bool.not_eq_false'] at hc5)
     have h0 : ¬ (0 < K ∧ t.getD 0 0 ^^^ fl = 0) := fun h9 => hc5.elim (fun h => h (by omega)) (fun h => h h9.2)
     refine wp_skip ?_
     refine hK8 _ _ ?_
     clear hK8
     refine wp_seq_k ?_; intro K15 hK15
     refine reg hF hS (sq rfl (q_assign rfl) <|
       sq_end) ?_
     clear hF hS; intro a w hF hS
     refine hK15 _ _ ?_
     clear hK15
     refine wp_seq_k ?_; intro K16 hK16
     refine wp_seq_k ?_; intro K17 hK17
     refine reg hF hS (sq rfl (q_move rfl) <|
       sq rfl (q_move rfl) <|
       sq rfl (q_addi rfl rfl (by omega)) <|
       sq rfl (q_slsl_lo_hi ty25 ty5 hb rfl rfl rfl (by omega)) <|
       sq rfl (q_len_sl ty25 (Sl.cut hb (by omega)) rfl) <|
       sq rfl (q_move rfl) <|
       sq_end) ?_
     clear hF hS; intro a w hF hS
     have hsl := Wi.take_K (h := h) (t := t) (K := K)
     have hsn : ((((h :: t).take ((K : Int) + 1).toNat).drop (1 : Int).toNat).length : Int) = K := by rw [hsl, List.length_take]; omega
     refine hK17 _ _ ?_
     clear hK17
     refine wp_block ?_
     obtain ⟨hs0, hhs0, hS⟩ : ∃ h, h = _ ∧ St _ _ h _ := ⟨_, rfl, hS⟩
     refine wp_loopx (γ := UInt64 × Int) (0, 0) (fun (gg : UInt64 × Int) => match gg with | (m, j) => [(7, vq m), (48, vi j)]) [(5, _), (6, _), (46, _), (47, _)] (fun (gg : UInt64 × Int) => match gg with | (m, j) => hs0) (fun (gg : UInt64 × Int) => match gg with | (m, j) => 0 ≤ j ∧ j ≤ K ∧ m.toNat = Wi.vj t fl K j.toNat) (fun (gg : UInt64 × Int) => match gg with | (m, j) => (K - j).toNat) (hF.sub ⟨rfl, rfl, rfl, rfl, rfl, rfl, trivial⟩) (by subst hhs0; exact hS) (by exact ⟨Int.le_refl _, by omega, by rw [show (0 : Int).toNat = 0 from rfl, Wi.vj_0]; rfl⟩) ?_
     clear hF hS; rintro ⟨m, j⟩ a w hfact hF hS
     subst hhs0; (try dsimp only at hfact); (try dsimp only at hF); (try dsimp only at hS)
     obtain ⟨hj0, hj1, hmv⟩ := hfact
     replace hS : St _ [] [] _ := hS
     refine wp_seq_k ?_; intro K18 hK18
     refine reg hF hS (sq rfl (q_lti rfl rfl) <|
       sq_end) ?_
     clear hF hS; intro a w hF hS
     refine hK18 _ _ ?_
     clear hK18
     refine wp_seq_k ?_; intro K19 hK19
     refine wp_ifd hF rfl (fun hc6 => ?_) (fun hc6 => ?_)
     ·refine wp_skip ?_
      refine hK19 _ _ ?_
      clear hK19
      refine wp_seq_k ?_; intro K20 hK20
      refine wp_block ?_
      refine wp_seq_k ?_; intro K21 hK21
      refine reg hF hS (sq rfl (q_idx_sl ty25 ty5 (Sl.cut hb (by omega)) rfl rfl (by omega)) <|
        sq rfl (q_ld_B ty5 (Sl.cut hb (by omega)) zin0 rfl rfl (by omega)) <|
        sq rfl (q_assign rfl) <|
        sq_end) ?_
      clear hF hS; intro a w hF hS
      refine hK21 _ _ ?_
      clear hK21
      refine reg hF hS (sq rfl (q_move rfl) <|
        sq rfl (q_shlq rfl rfl (by omega)) <|
        sq rfl (q_move rfl) <|
        sq rfl (q_move rfl) <|
        sq rfl (q_xorb rfl rfl) <|
        sq rfl (q_cv_bq ty5 ty179 rfl) <|
        sq rfl (q_orq rfl rfl) <|
        sq rfl (q_assign rfl) <|
        sq_end) ?_
      clear hF hS; intro a w hF hS
      refine hK20 _ _ ?_
      clear hK20
      refine reg hF hS (sq rfl (q_addi rfl rfl (by omega)) <|
        sq rfl (q_move rfl) <|
        sq_end) ?_
      clear hF hS; intro a w hF hS
      refine ⟨(_, j + 1), ?_, ?_, hF.sub ⟨rfl, rfl, rfl, rfl, rfl, rfl, trivial⟩, ?_⟩
      ·(try dsimp only); omega
      ·refine ⟨by omega, by omega, ?_⟩
       rw [Wi.shl8_or _ _ (by rw [hmv]; exact Wi.vj_lt t fl K j.toNat (by omega)), show (j + 1).toNat = j.toNat + 1 by omega, Wi.vj_succ t fl K j.toNat (by omega) (by omega), hmv, hsl, List.getD_eq_getElem?_getD, List.getD_eq_getElem?_getD, List.getElem?_take, if_pos (by omega)]
      ·exact hS
     ·have hjK : j = (K : Int) := by omega
      have hmK : m.toNat = Wi.vj t fl K K := by rw [hmv, hjK, Int.toNat_natCast]
      clear hmv
      refine wp_exit ?_
      refine hK16 _ _ ?_
      clear hK16
      refine wp_seq_k ?_; intro K22 hK22
      refine wp_seq_k ?_; intro K23 hK23
      refine reg hF hS (sq rfl (q_move rfl) <|
        sq rfl (q_shrq rfl rfl (by omega)) <|
        sq rfl (q_gtq (q := 0) rfl rfl) <|
        sq_end) ?_
      clear hF hS; intro a w hF hS
      refine hK23 _ _ ?_
      clear hK23
      refine wp_ifd hF rfl (fun hc7 => ?_) (fun hc7 => ?_)
      ·rw [Wi.top63] at hc7
       refine wp_seq_k ?_; intro K24 hK24
       refine reg hF hS (sq rfl (q_assign rfl) <|
         sq rfl (q_assign rfl) <|
         sq rfl (q_assign rfl) <|
         sq_end) ?_
       clear hF hS; intro a w hF hS
       refine hK24 _ _ ?_
       clear hK24
       refine wp_ret ?_
       exact fn_ret (rs := [.tmp 2, .tmp 3, .tmp 4]) rfl hF hS (vs := [_, _, _]) ⟨rfl, rfl, rfl, trivial⟩ zQ zQ (Wi.gi_eq (Wi.gi_high hfl hK h8 hlt (by rw [← Wi.vj_K, ← hmK]; exact hc7)))
      ·rw [Wi.top63] at hc7
       have hmb := hc7
       have hfo := Wi.flipOf_or h
       rw [← hfl] at hfo
       refine wp_skip ?_
       refine hK22 _ _ ?_
       clear hK22
       obtain ⟨hs0, hhs0, hS⟩ : ∃ h, h = _ ∧ St _ _ h _ := ⟨_, rfl, hS⟩
       refine wp_cutx (γ := UInt64) (fun (m2 : UInt64) => [(7, vq m2)]) [(6, _)] (fun (m2 : UInt64) => hs0) (fun (m2 : UInt64) => sgn m2 = if fl = 0 then (m.toNat : Int) else -1 - (m.toNat : Int)) (hF.sub ⟨rfl, trivial⟩) hS ?_ ?_
       ·subst hhs0
        refine wp_seq_k ?_; intro K25 hK25
        refine reg hF hS (sq rfl (q_move rfl) <|
          sq rfl (q_gtb (q := 0) rfl rfl) <|
          sq_end) ?_
        clear hF hS; intro a w hF hS
        refine hK25 _ _ ?_
        clear hK25
        refine wp_ifd hF rfl (fun hc8 => ?_) (fun hc8 => ?_)
        ·refine reg hF hS (sq rfl (q_move rfl) <|
           sq rfl (q_notq rfl) <|
           sq rfl (q_assign rfl) <|
           sq_end) ?_
         clear hF hS; intro a w hF hS
         refine ⟨(~~~m), ?_, hF.sub ⟨rfl, rfl, trivial⟩, ?_⟩
         ·rw [if_neg ((Wi.fl_pos hfo).1 hc8)]; exact Wi.sgn_not m hmb
         ·exact hS
        ·refine wp_skip ?_
         refine ⟨(m), ?_, hF.sub ⟨rfl, rfl, trivial⟩, ?_⟩
         ·rw [if_pos (Classical.not_not.1 (fun h9 => hc8 ((Wi.fl_pos hfo).2 h9)))]; exact Wi.sgn_small m hmb
         ·exact hS
       clear hF hS; rintro m2 a w hfact hF hS
       subst hhs0; (try dsimp only at hfact); (try dsimp only at hF); (try dsimp only at hS)
       have hm2 := hfact
       replace hS : St _ [] [] _ := hS
       refine wp_seq_k ?_; intro K26 hK26
       refine reg hF hS (sq rfl (q_move rfl) <|
         sq rfl (q_cv_qi ty179 ty3 rfl) <|
         sq rfl (q_move rfl) <|
         sq rfl (q_addi rfl rfl (by omega)) <|
         sq rfl (q_assign rfl) <|
         sq rfl (q_assign rfl) <|
         sq rfl (q_assign rfl) <|
         sq_end) ?_
       clear hF hS; intro a w hF hS
       refine hK26 _ _ ?_
       clear hK26
       refine wp_ret ?_
       exact fn_ret (rs := [.tmp 2, .tmp 3, .tmp 4]) rfl hF hS (vs := [_, _, _]) ⟨rfl, rfl, rfl, trivial⟩ zQ zQ (by rw [hm2, hmK, Wi.vj_K]; exact Wi.gi_eq (Wi.gi_ok hfl hK h8 hlt h0 (by rw [← Wi.vj_K, ← hmK]; exact hmb)))
end Go.Proofs.YtngcjojijaknnaaGreatDoor
