/- A text of a proof over this seat: walks over the program's functions and the plain laws that they need. -/
import Derived.Test.YtibbhobfdbfkkaaGreatDoorJj19
import Derived.Test.YtibbhobfdbfkkaaGreatDoorJgB
import Derived.Test.YtibbhobfdbfkkaaGreatDoorFwG
import Derived.Test.YtibbhobfdbfkkaaGreatDoorFwB
set_option linter.all false
namespace Go.Proofs.YtibbhobfdbfkkaaGreatDoor
open Go.Fw
theorem ty41 : Tf Tryz.prog 41 (.slice 46) 1 24 (Value.slice none 0 0) := ⟨Tryz.underlying41, by kernel_rfl⟩
theorem ty46 : Tf Tryz.prog 46 (.int .u16) 1 2 (Value.int .u16 0) := ⟨Tryz.underlying46, by kernel_rfl⟩

attribute [local irreducible] Sha.sum Jn.good Jn.hd Jn.lb Jn.cnt Jn.unp Jn.pack Jn.opn Jn.app Jn.cs Jn.cz Dk.rot

set_option maxRecDepth 4000 in
set_option maxHeartbeats 2000000 in
theorem jlaw6_ct (nc : Jn.NoCol) (nz : Jn.NoZero) (n : Nat) (hn : 1 ≤ n ∧ n ≤ 4096) (v : Value) (os : List Stp) (kk : UInt8) (v3 : Value) (bs : List Int) (w : World) (hb1 : Sl encSt (ph w) v os) (hb3 : Sl Go.Fw.encH (ph w) v3 bs) {fz0 fz1 : Nat × Nat} {bt0 bt1 : TypeId} (hg0 : w.heap[0]? = some (.cells (Sha.kc.map vw).toArray bt0 fz0)) (hg1 : w.heap[2]? = some (.cells (Sha.kc.map vw).toArray bt1 fz1)) : Ct Tryz.prog 4 [vi (n : Int), v, vb kk, v3] w (fun r _ _ => r = .bool true) := by
 refine fn_enter Tryz.func4 rfl Tryz.ntmps4 (Nat.le_of_ble_eq_true rfl) fun a hF hS => ?_
 have hol := hb1.1
 have hbl := hb3.1
 refine wp_seq_k ?_; intro K1 hK1
 refine reg hF hS (sq rfl (q_assign rfl) <|
   sq_end) ?_
 clear hF hS; intro a w hF hS
 refine hK1 _ _ ?_
 clear hK1
 refine wp_seq_k ?_; intro K2 hK2
 refine wp_seq_k ?_; intro K3 hK3
 refine regl ?_
 refine wpl_sq hF hS (sq rfl (q_move rfl) <|
   sq rfl (q_gti rfl rfl) <|
   sq rfl (q_move rfl) <|
   sq_end) ?_
 clear hF hS; intro a w hF hS
 refine wpl_or 2 26 3 hF hS rfl rfl rfl rfl rfl (fun hg => have hg := (by first | exact of_decide_eq_false hg | exact hg); sq_go 26 rfl rfl rfl (q_move rfl) <|
   sq_go 26 rfl rfl rfl (q_len_sl ty40 hb1 rfl) <|
   sq_go 26 rfl rfl rfl (q_gti rfl rfl) <|
   sq_end) rfl rfl ?_
 clear hF hS; intro a w hF hS
 refine wpl_sq hF hS (sq rfl (q_move rfl) <|
   sq_end) ?_
 clear hF hS; intro a w hF hS
 refine wpl_or 7 31 3 hF hS rfl rfl rfl rfl rfl (fun hg => have hg := hg; sq_go 31 rfl rfl rfl (q_move rfl) <|
   sq_go 31 rfl rfl rfl (q_len_sl ty41 hb3 rfl) <|
   sq_go 31 rfl rfl rfl (q_gti rfl rfl) <|
   sq_end) rfl rfl ?_
 clear hF hS; intro a w hF hS
 refine wpl_sq hF hS (sq rfl (q_move rfl) <|
   sq_end) ?_
 clear hF hS; intro a w hF hS
 refine wpl_or 12 36 3 hF hS rfl rfl rfl rfl rfl (fun hg => have hg := hg; sq_go 36 rfl rfl rfl (q_move rfl) <|
   sq_go 36 rfl rfl rfl (q_len_sl ty41 hb3 rfl) <|
   sq_go 36 rfl rfl rfl (q_eqi rfl rfl) <|
   sq_end) rfl rfl ?_
 clear hF hS; intro a w hF hS
 refine wpList_nil ?_
 refine hK3 _ _ ?_
 clear hK3
 refine wp_if hF rfl (fun hc1 => ?_) (fun hc1 => ?_)
 ·(try simp only [Bool.or_eq_true, Bool.and_eq_true, Bool.or_eq_false_iff, Bool.and_eq_false_iff, decide_eq_true_eq, decide_eq_false_iff_not, Bool.not_eq_true', Bool.not_eq_false'] at hc1)
  refine wp_seq_k ?_; intro K4 hK4
  refine reg hF hS (sq rfl (q_call fn7 rfl (fun w hS => sanity40_ct w (hS.ext _ _ hg1)) (fun _ _ _ h => h)) <|
    sq rfl (q_assign rfl) <|
    sq_end) ?_
  clear hF hS; intro a w hF hS
  refine hK4 _ _ ?_
  clear hK4
  refine wp_ret ?_
  exact fn_ret (rs := [.tmp 8]) rfl hF hS (vs := [_]) ⟨rfl, trivial⟩ zQ zQ (rfl)
 ·(try simp only [Bool.or_eq_true, Bool.and_eq_true, Bool.or_eq_false_iff, Bool.and_eq_false_iff, decide_eq_true_eq, decide_eq_false_iff_not, Bool.not_eq_true', Bool.not_eq_false'] at hc1)
  refine wp_skip ?_
  refine hK2 _ _ ?_
  clear hK2
  refine wp_seq_k ?_; intro K5 hK5
  refine regl ?_
  refine wpl_sq hF hS (sq rfl (q_move rfl) <|
    sq rfl (q_move rfl) <|
    sq_end) ?_
  clear hF hS; intro a w hF hS
  refine wpl_ef hF hS rfl (ef_call fn15 rfl (fun w hS => filled_ct _ (by omega) _ _ w (Sl.mono (hS.le zin0) hb1) (hS.ext _ _ hg1))) ?_
  clear hF hS; rintro _ _ _ a w ⟨_, _, rfl, rfl, ⟨rfl, hh, qa, qb, qc, qd, tv, S0, J0, rfl, rfl, hD0, hFi, hsl, htl⟩⟩ hF hS
  replace hS : St _ [] [_, _, _, _, _] _ := hS
  refine wpl_sq hF hS (sq rfl (q_move rfl) <|
    sq rfl (q_extract rfl rfl) <|
    sq rfl (q_extract rfl rfl) <|
    sq rfl (q_extract rfl rfl) <|
    sq rfl (q_assign rfl) <|
    sq rfl (q_assign rfl) <|
    sq rfl (q_assign rfl) <|
    sq_end) ?_
  clear hF hS; intro a w hF hS
  refine wpList_nil ?_
  have hr2 := hFi.g.wf.nl
  have hr3 := hFi.g.wf.tl
  have hr4 := hFi.g.wf.e2
  refine hK5 _ _ ?_
  clear hK5
  refine wp_seq_k ?_; intro K6 hK6
  refine wp_seq_k ?_; intro K7 hK7
  refine reg hF hS (sq rfl (q_move rfl) <|
    sq rfl (q_not rfl) <|
    sq rfl (q_move rfl) <|
    sq_go 51 rfl rfl rfl (q_move rfl) <|
    sq_go 51 rfl rfl rfl (q_len_row ty22 4 rfl rfl) <|
    sq_go 51 rfl rfl rfl (q_eqi rfl rfl) <|
    sq rfl (q_pick_f rfl rfl) <|
    sq_end) ?_
  clear hF hS; intro a w hF hS
  refine hK7 _ _ ?_
  clear hK7
  refine wp_ifd hF rfl (fun hc2 => ?_) (fun hc2 => ?_)
  ·refine wp_seq_k ?_; intro K8 hK8
   refine reg hF hS (sq rfl (q_call fn7 rfl (fun w hS => sanity40_ct w (hS.ext _ _ hg1)) (fun _ _ _ h => h)) <|
     sq rfl (q_move rfl) <|
     sq_go 57 rfl rfl rfl (q_move rfl) <|
     sq_go 57 rfl rfl rfl (q_move rfl) <|
     sq_skip 59 rfl rfl rfl rfl <|
     sq_skip 59 rfl rfl rfl rfl <|
     sq_go 57 rfl rfl rfl (q_pick_t rfl rfl) <|
     sq rfl (q_pick_t rfl rfl) <|
     sq rfl (q_assign rfl) <|
     sq_end) ?_
   clear hF hS; intro a w hF hS
   refine hK8 _ _ ?_
   clear hK8
   refine wp_ret ?_
   exact fn_ret (rs := [.tmp 8]) rfl hF hS (vs := [_]) ⟨rfl, trivial⟩ zQ zQ (rfl)
  ·refine wp_skip ?_
   refine hK6 _ _ ?_
   clear hK6
   refine wp_seq_k ?_; intro K9 hK9
   refine regd mixed kQ hF hS (sq rfl (q_move rfl) <|
     sq rfl (q_cv_bi ty5 ty3 rfl) <|
     sq rfl (q_move rfl) <|
     sq rfl (q_len_row ty22 4 rfl rfl) <|
     sq rfl (q_remi rfl rfl (by omega)) <|
     sq rfl (q_assign rfl) <|
     sq rfl (q_assign rfl) <|
     sq_end) ?_
   clear hF hS; intro a w hF hS
   replace hS := hS.perm (.cons _ (.cons _ (.cons _ (.swap _ _ _))))
   replace hS := hS.perm (.cons _ (.cons _ (.swap _ _ _)))
   replace hS := hS.perm (.cons _ (.swap _ _ _))
   replace hS := hS.perm (.swap _ _ _)
   obtain ⟨z7, hz8, hS⟩ := St.freezeV (h0 := fun _ => rfl) (f := vs) (p := fun s => s.length ≤ 140737488355328) (xs := J0.tx) hS rfl (by omega) hFi.g.wf.tr'
   replace hS : St _ [_] [_, _, _, _] _ := hS
   have hq0 : 0 < J0.tx.length := by omega
   have hq12 : J0.tx.length ≤ 12 := by omega
   have hk9 := kk.toNat_lt
   have hm1 := Int.emod_nonneg (kk.toNat : Int) (b := (J0.tx.length : Int)) (by omega)
   have hm2 := Int.emod_lt_of_pos (kk.toNat : Int) (b := (J0.tx.length : Int)) (by omega)
   obtain ⟨h9, hh9⟩ : ∃ h9 : Nat, (kk.toNat : Int) % (J0.tx.length : Int) = (h9 : Int) := ⟨_, (Int.toNat_of_nonneg hm1).symm⟩
   rw [hh9] at hF hm1 hm2
   have hhl : h9 < J0.tx.length := by omega
   have ht8 := (hFi.tq _ (Jn.gd_mem hhl)).1
   have hcz := Jn.cz_cnt ht8
   have ht8b : (J0.tx.getD ((h9 : Int)).toNat []).length ≤ 8000 := ht8
   have hcp := Jn.cz_pos ht8
   have hcr := Jn.cnt_rng ((J0.tx.getD h9 []).length : Int)
   have hce := hFi.cse
   have hcl := hFi.g.en
   have hg1a := Jn.cs_all (l := J0.tx) (i := h9 + 1) hhl
   have hdl := Jn.tk_len J0.tx hhl
   have hg2a := Jn.cs_take (l := J0.tx) (k := h9) hhl
   refine hK9 _ _ ?_
   clear hK9
   refine wp_seq_k ?_; intro K10 hK10
   refine wp_seq_k ?_; intro K11 hK11
   refine reg hF hS (sq rfl (q_move rfl) <|
     sq rfl (q_move rfl) <|
     sq rfl (q_slsl_hi ty22 ty9 hz8 rfl rfl (by omega)) <|
     sq rfl (q_len_sl ty22 (Sl.cut hz8 (by omega)) rfl) <|
     sq rfl (q_move rfl) <|
     sq_end) ?_
   clear hF hS; intro a w hF hS
   refine hK11 _ _ ?_
   clear hK11
   refine wp_block ?_
   obtain ⟨hs0, hhs0, hS⟩ : ∃ h, h = _ ∧ St _ _ h _ := ⟨_, rfl, hS⟩
   refine wp_loopx (γ := Nat) (0) (fun (i : Nat) => [(12, vi (Jn.cs (J0.tx.take i) : Int)), (73, vi (i : Int))]) [(3, _), (9, _), (10, _), (13, _), (71, _), (72, _)] (fun (i : Nat) => hs0) (fun (i : Nat) => i ≤ h9) (fun (i : Nat) => h9 - i) (hF.sub ⟨(by show some (vi 0) = some (vi _); rw [Jn.cs_0]; rfl), rfl, rfl, rfl, rfl, rfl, rfl, rfl, trivial⟩) (by subst hhs0; exact hS) (by exact Nat.zero_le _) ?_
   clear hF hS; rintro i a w hfact hF hS
   subst hhs0; (try dsimp only at hfact); (try dsimp only at hF); (try dsimp only at hS)
   have hi0 := hfact
   replace hS : St _ [_] [_, _, _, _] _ := hS
   refine wp_seq_k ?_; intro K12 hK12
   refine reg hF hS (sq rfl (q_lti rfl rfl) <|
     sq_end) ?_
   clear hF hS; intro a w hF hS
   refine hK12 _ _ ?_
   clear hK12
   refine wp_seq_k ?_; intro K13 hK13
   refine wp_ifd hF rfl (fun hc3 => ?_) (fun hc3 => ?_)
   ·have hel := Jn.tk_at' J0.tx (h := h9) (i := i) (by omega)
    have het := (hFi.tq _ (Jn.gd_mem (l := J0.tx) (j := i) (by omega))).1
    have hez := Jn.cz_cnt het
    have het2 := het
    rw [← hel] at het2
    have hcr2 := Jn.cnt_rng (((List.drop 0 (List.take ((h9 : Int)).toNat J0.tx)).getD ((i : Int)).toNat []).length : Int)
    have hes := Jn.cs_take (l := J0.tx) (k := i) (by omega)
    have hea := Jn.cs_all (l := J0.tx) (i := i + 1) (by omega)
    refine wp_skip ?_
    refine hK13 _ _ ?_
    clear hK13
    refine wp_seq_k ?_; intro K14 hK14
    refine wp_block ?_
    refine wp_seq_k ?_; intro K15 hK15
    refine reg hF hS (sq rfl (q_idx_sl ty22 ty9 (Sl.cut hz8 (by omega)) rfl rfl (by omega)) <|
      sq rfl (q_ld_S ty9 (Sl.cut hz8 (by omega)) (.inr (by simp)) rfl rfl (by omega)) <|
      sq rfl (q_assign rfl) <|
      sq_end) ?_
    clear hF hS; intro a w hF hS
    refine hK15 _ _ ?_
    clear hK15
    refine reg hF hS (sq rfl (q_move rfl) <|
      sq rfl (q_move rfl) <|
      sq rfl (q_len_s ty9 rfl) <|
      sq rfl (q_call fn16 rfl (fun w hS => count_ct _ (by first | assumption | omega) w ) (fun _ _ _ h => h)) <|
      sq rfl (q_addi rfl rfl (by omega)) <|
      sq rfl (q_assign rfl) <|
      sq_end) ?_
    clear hF hS; intro a w hF hS
    refine hK14 _ _ ?_
    clear hK14
    refine reg hF hS (sq rfl (q_addi rfl rfl (by omega)) <|
      sq rfl (q_move rfl) <|
      sq_end) ?_
    clear hF hS; intro a w hF hS
    refine ⟨(i + 1), ?_, ?_, hF.sub ⟨(by show some (vi _) = some (vi _); rw [hes, Int.natCast_add, hez, ← hel]), rfl, rfl, rfl, rfl, rfl, rfl, rfl, trivial⟩, ?_⟩
    ·(try dsimp only); omega
    ·omega
    ·exact hS
   ·obtain rfl : h9 = i := by omega
    refine wp_exit ?_
    refine hK10 _ _ ?_
    clear hK10
    refine wp_seq_k ?_; intro K16 hK16
    refine reg hF hS (sq rfl (q_move rfl) <|
      sq rfl (q_move rfl) <|
      sq rfl (q_idx_sl ty22 ty9 hz8 rfl rfl (by omega)) <|
      sq rfl (q_ld_S ty9 hz8 (.inr (by simp)) rfl rfl (by omega)) <|
      sq rfl (q_len_s ty9 rfl) <|
      sq rfl (q_call fn16 rfl (fun w hS => count_ct _ (by first | assumption | omega) w ) (fun _ _ _ h => h)) <|
      sq rfl (q_assign rfl) <|
      sq_end) ?_
    clear hF hS; intro a w hF hS
    rw [Int.toNat_natCast] at hF
    refine hK16 _ _ ?_
    clear hK16
    refine wp_seq_k ?_; intro K17 hK17
    refine regl ?_
    refine wpl_ef hF hS rfl (ef_mkmap) ?_
    clear hF hS; rintro _ _ _ a w ⟨b9, rfl, rfl, rfl⟩ hF hS
    replace hS : St _ [_] [_, _, _, _, _] _ := hS
    refine wpl_sq hF hS (sq rfl (q_assign rfl) <|
      sq_end) ?_
    clear hF hS; intro a w hF hS
    refine wpList_nil ?_
    refine hK17 _ _ ?_
    clear hK17
    refine wp_seq_k ?_; intro K18 hK18
    refine wp_seq_k ?_; intro K19 hK19
    refine reg hF hS (sq rfl (q_move rfl) <|
      sq rfl (q_len_sl ty41 hb3 rfl) <|
      sq rfl (q_move rfl) <|
      sq_end) ?_
    clear hF hS; intro a w hF hS
    refine hK19 _ _ ?_
    clear hK19
    refine wp_block ?_
    obtain ⟨hs0, hhs0, hS⟩ : ∃ h, h = _ ∧ St _ _ h _ := ⟨_, rfl, hS⟩
    refine wp_loopx (γ := Dk.Dsk × List Int × List MapEntry × Nat × Res × Res × Res × Res × Nat) (S0, [], [], 0, qa, qb, qc, qd, 0) (fun (gg : Dk.Dsk × List Int × List MapEntry × Nat × Res × Res × Res × Res × Nat) => match gg with | (M, tT, es, ec, q1, q2, q3, q4, j) => [(92, vi (j : Int))]) [(9, _), (10, _), (12, _), (13, _), (16, _), (17, _), (90, _), (91, _)] (fun (gg : Dk.Dsk × List Int × List MapEntry × Nat × Res × Res × Res × Res × Nat) => match gg with | (M, tT, es, ec, q1, q2, q3, q4, j) => (((((hs0.set 1 (q1)).set 2 (q2)).set 3 (q3)).set 4 (q4)).set 0 (.mp b9 es ec))) (fun (gg : Dk.Dsk × List Int × List MapEntry × Nat × Res × Res × Res × Res × Nat) => match gg with | (M, tT, es, ec, q1, q2, q3, q4, j) => j ≤ bs.length ∧ DD hh M q1 q2 q3 q4 ∧ MpR vi (Jn.mT tT) es ∧ Jn.Rotd S0 M (Jn.cs (J0.tx.take h9)) (Jn.cz (J0.tx.getD h9 [])) tT ∧ tT.length ≤ j ∧ (0 < j → tT ≠ [])) (fun (gg : Dk.Dsk × List Int × List MapEntry × Nat × Res × Res × Res × Res × Nat) => match gg with | (M, tT, es, ec, q1, q2, q3, q4, j) => bs.length - j) (hF.sub ⟨rfl, rfl, rfl, rfl, rfl, rfl, rfl, rfl, rfl, trivial⟩) (by subst hhs0; exact hS) (by exact ⟨Nat.zero_le _, hD0, rfl, Jn.rotd_nil hFi.g.ok hFi.g.still _ _, Nat.zero_le _, fun h => absurd h (Nat.lt_irrefl 0)⟩) ?_
    clear hF hS; rintro ⟨M, tT, es, ec, q1, q2, q3, q4, j⟩ a w hfact hF hS
    subst hhs0; (try dsimp only at hfact); (try dsimp only at hF); (try dsimp only at hS)
    obtain ⟨hj0, hDq, hMm, hRo, hTl, hne⟩ := hfact
    have hOM := Dk.DOk.ok hDq
    replace hS : St _ [_] [_, _, _, _, _] _ := hS
    refine wp_seq_k ?_; intro K20 hK20
    refine reg hF hS (sq rfl (q_lti rfl rfl) <|
      sq_end) ?_
    clear hF hS; intro a w hF hS
    refine hK20 _ _ ?_
    clear hK20
    refine wp_seq_k ?_; intro K21 hK21
    refine wp_ifd hF rfl (fun hc4 => ?_) (fun hc4 => ?_)
    ·have hbx := Go.Fw.h_at hb3 (k := ((j : Int)).toNat) (by omega)
     have hi1 : 0 ≤ ((bs.getD ((j : Int)).toNat 0) / 512 % max 1 (Jn.cnt ((J0.tx.getD h9 []).length : Int))) := Int.emod_nonneg _ (by omega)
     have hi2 : ((bs.getD ((j : Int)).toNat 0) / 512 % max 1 (Jn.cnt ((J0.tx.getD h9 []).length : Int))) < max 1 (Jn.cnt ((J0.tx.getD h9 []).length : Int)) := Int.emod_lt_of_pos _ (by omega)
     have hb1x : 0 ≤ (bs.getD ((j : Int)).toNat 0) % 512 ∧ (bs.getD ((j : Int)).toNat 0) % 512 < 512 := by omega
     refine wp_skip ?_
     refine hK21 _ _ ?_
     clear hK21
     refine wp_seq_k ?_; intro K22 hK22
     refine wp_block ?_
     refine wp_seq_k ?_; intro K23 hK23
     refine reg hF hS (sq rfl (q_idx_sl ty41 ty46 hb3 rfl rfl (by omega)) <|
       sq rfl (q_ld_H ty46 hb3 zin0 rfl rfl (by omega)) <|
       sq rfl (q_assign rfl) <|
       sq_end) ?_
     clear hF hS; intro a w hF hS
     refine hK23 _ _ ?_
     clear hK23
     refine wp_seq_k ?_; intro K24 hK24
     refine reg hF hS (sq rfl (q_move rfl) <|
       sq rfl (q_shr9 rfl rfl hbx) <|
       sq rfl (q_cv_hi ty46 ty3 rfl (by omega)) <|
       sq rfl (q_move rfl) <|
       sq rfl (q_max rfl rfl) <|
       sq rfl (q_remi rfl rfl (by omega)) <|
       sq rfl (q_assign rfl) <|
       sq_end) ?_
     clear hF hS; intro a w hF hS
     refine hK24 _ _ ?_
     clear hK24
     refine wp_seq_k ?_; intro K25 hK25
     refine wp_seq_k ?_; intro K26 hK26
     refine reg hF hS (sq rfl (q_move rfl) <|
       sq rfl (q_move rfl) <|
       sq rfl (q_lookupD ty45 ty4 (key_I ty3) 0 rfl rfl rfl hMm (fun _ _ => trivial) trivial (Jn.mT_get tT _)) <|
       sq_end) ?_
     clear hF hS; intro a w hF hS
     refine hK26 _ _ ?_
     clear hK26
     refine wp_if hF rfl (fun hc5 => ?_) (fun hc5 => ?_)
     ·refine wp_exit ?_
      refine hK22 _ _ ?_
      clear hK22
      refine reg hF hS (sq rfl (q_addi rfl rfl (by omega)) <|
        sq rfl (q_move rfl) <|
        sq_end) ?_
      clear hF hS; intro a w hF hS
      refine ⟨(M, tT, es, ec, q1, q2, q3, q4, j + 1), ?_, ?_, hF.sub ⟨rfl, rfl, rfl, rfl, rfl, rfl, rfl, rfl, rfl, trivial⟩, ?_⟩
      ·(try dsimp only); omega
      ·exact ⟨by omega, hDq, hMm, hRo, by omega, fun _ e => by rw [e] at hc5; simp at hc5⟩
      ·exact hS
     ·have hnT : ¬ ((bs.getD ((j : Int)).toNat 0) / 512 % max 1 (Jn.cnt ((J0.tx.getD h9 []).length : Int))) ∈ tT := by simpa using hc5
      obtain ⟨hR2, hr0⟩ := Jn.rotd_step hRo (i := ((bs.getD ((j : Int)).toNat 0) / 512 % max 1 (Jn.cnt ((J0.tx.getD h9 []).length : Int)))) (b := (bs.getD ((j : Int)).toNat 0) % 512) (by omega) hnT (by omega) hb1x
      refine wp_skip ?_
      refine hK25 _ _ ?_
      clear hK25
      refine wp_seq_k ?_; intro K27 hK27
      refine regl ?_
      refine wpl_sq hF hS (sq rfl (q_move rfl) <|
        sq rfl (q_move rfl) <|
        sq_end) ?_
      clear hF hS; intro a w hF hS
      refine wpl_ef hF hS rfl (ef_mapset ty45 (key_I ty3) 0 rfl rfl rfl rfl hMm (fun _ _ => trivial) trivial) ?_
      clear hF hS; rintro _ _ _ a w ⟨es1, ec1, hM1, rfl, rfl, rfl⟩ hF hS
      replace hS : St _ [_] [_, _, _, _, _] _ := hS
      refine wpList_nil ?_
      refine hK27 _ _ ?_
      clear hK27
      refine wp_seq_k ?_; intro K28 hK28
      refine regl ?_
      refine wpl_sq hF hS (sq rfl (q_move rfl) <|
        sq rfl (q_move rfl) <|
        sq rfl (q_move rfl) <|
        sq rfl (q_addi rfl rfl (by omega)) <|
        sq rfl (q_move rfl) <|
        sq rfl (q_rem512 rfl rfl hbx) <|
        sq rfl (q_cv_hi ty46 ty3 rfl (by omega)) <|
        sq_end) ?_
      clear hF hS; intro a w hF hS
      replace hS := hS.perm (.swap _ _ _)
      replace hS := hS.perm (.cons _ (.swap _ _ _))
      replace hS := hS.perm (.cons _ (.cons _ (.swap _ _ _)))
      replace hS := hS.perm (.cons _ (.cons _ (.cons _ (.swap _ _ _))))
      replace hS : St _ [_] [_, _, _, _, _] _ := hS
      refine wpl_ef hF hS rfl (ef_callx fn17 rfl (List.Perm.refl _) (by exact (drot_ct _ _ _ _ (by omega) (by omega) _ _  hDq))) ?_
      clear hF hS; rintro _ _ _ a w ⟨_, _, rfl, rfl, ⟨rfl, rfl, qa12, qb13, qc14, qd15, rfl, hD16⟩⟩ hF hS
      replace hS : St _ [_] [_, _, _, _, _] _ := hS
      refine wpl_sq hF hS (sq rfl (q_nf (q_nei rfl rfl) (hr0)) <|
        sq_end) ?_
      clear hF hS; intro a w hF hS
      refine wpList_nil ?_
      refine hK28 _ _ ?_
      clear hK28
      refine wp_if hF rfl (fun h => absurd h (by simp)) (fun _ => ?_)
      refine wp_skip ?_
      refine hK22 _ _ ?_
      clear hK22
      refine reg hF hS (sq rfl (q_addi rfl rfl (by omega)) <|
        sq rfl (q_move rfl) <|
        sq_end) ?_
      clear hF hS; intro a w hF hS
      replace hS := hS.perm (.cons _ (.cons _ (.cons _ (.swap _ _ _))))
      replace hS := hS.perm (.cons _ (.cons _ (.swap _ _ _)))
      replace hS := hS.perm (.cons _ (.swap _ _ _))
      replace hS := hS.perm (.swap _ _ _)
      replace hS := hS.keep sQ sQ
      refine ⟨((Dk.rot M (((Jn.cs (J0.tx.take h9)) : Int) + ((bs.getD ((j : Int)).toNat 0) / 512 % max 1 (Jn.cnt ((J0.tx.getD h9 []).length : Int)))) ((bs.getD ((j : Int)).toNat 0) % 512)).1, tT ++ [((bs.getD ((j : Int)).toNat 0) / 512 % max 1 (Jn.cnt ((J0.tx.getD h9 []).length : Int)))], es1, ec1, qa12, qb13, qc14, qd15, j + 1), ?_, ?_, hF.sub ⟨rfl, rfl, rfl, rfl, rfl, rfl, rfl, rfl, rfl, trivial⟩, ?_⟩
      ·(try dsimp only); omega
      ·exact ⟨by omega, hD16, by rw [← Jn.mT_set hnT]; exact hM1, hR2, by rw [List.length_append, List.length_singleton]; omega, fun _ e => by simp at e⟩
      ·exact hS
    ·have hTne : tT ≠ [] := hne (by omega)
     have hil := Dk.image_len M
     have hMh := hOM.hi
     refine wp_exit ?_
     refine hK18 _ _ ?_
     clear hK18
     refine wp_seq_k ?_; intro K29 hK29
     refine wp_seq_k ?_; intro K30 hK30
     refine regl ?_
     refine wpl_sq hF hS (sq rfl (q_move rfl) <|
       sq_end) ?_
     clear hF hS; intro a w hF hS
     replace hS := hS.perm (.swap _ _ _)
     replace hS := hS.perm (.cons _ (.swap _ _ _))
     replace hS := hS.perm (.cons _ (.cons _ (.swap _ _ _)))
     replace hS := hS.perm (.cons _ (.cons _ (.cons _ (.swap _ _ _))))
     replace hS : St _ [_] [_, _, _, _, _] _ := hS
     refine wpl_ef hF hS rfl (ef_callx fn19 rfl (List.Perm.refl _) (by exact (dimage_ct _ _ _ _  hDq))) ?_
     clear hF hS; rintro v17 _ _ a w ⟨_, _, rfl, rfl, ⟨rfl, qa18, qb19, qc20, qd21, rfl, hD22⟩⟩ hF hS
     replace hS : St _ [_] [_, _, _, _, _, _] _ := hS
     refine wpl_sq hF hS (sq rfl (q_move rfl) <|
       sq rfl (q_call fn18 rfl (fun w hS => genuine_ct _ _ _ _ (by omega) (by omega) w (own_slV (f := vs) (xs := (Dk.image M)) (hS.own _ (List.mem_of_getElem? (i := 0) rfl)).1 (Dk.image_64 hOM) rfl (by first | decide | omega)) (Sl.mono (hS.le (.inr (by simp))) hz8) (hS.ext _ _ hg0)) (fun _ _ _ h => h)) <|
       sq rfl (q_not rfl) <|
       sq_end) ?_
     clear hF hS; intro a w hF hS
     refine wpList_nil ?_
     refine hK30 _ _ ?_
     clear hK30
     refine wp_ifn hF rfl (fun hc7 => ?_) (fun hc7 => ?_)
     ·refine wp_seq_k ?_; intro K31 hK31
      refine reg hF hS (sq rfl (q_call fn7 rfl (fun w hS => sanity40_ct w (hS.ext _ _ hg1)) (fun _ _ _ h => h)) <|
        sq rfl (q_assign rfl) <|
        sq_end) ?_
      clear hF hS; intro a w hF hS
      refine hK31 _ _ ?_
      clear hK31
      refine wp_ret ?_
      exact fn_ret (rs := [.tmp 8]) rfl hF hS (vs := [_]) ⟨rfl, trivial⟩ zQ zQ (rfl)
     ·have hfs := Jn.finds nc nz hFi (by omega) hq12 hhl hRo hTne hc7
      have hyl : (J0.tx.take h9 ++ J0.tx.drop (h9 + 1)).length ≤ 12 := by rw [List.length_append, List.length_take, List.length_drop]; omega
      have hyp : ∀ x ∈ (J0.tx.take h9 ++ J0.tx.drop (h9 + 1)), x.length ≤ 140737488355328 := fun x hx => by
       rcases List.mem_append.1 hx with h8 | h8
       ·exact hFi.g.wf.tr' x (List.mem_of_mem_take h8)
       ·exact hFi.g.wf.tr' x (List.mem_of_mem_drop h8)
      refine wp_skip ?_
      refine hK29 _ _ ?_
      clear hK29
      refine wp_seq_k ?_; intro K32 hK32
      refine regl ?_
      refine wpl_sq hF hS (sq rfl (q_move rfl) <|
        sq_end) ?_
      clear hF hS; intro a w hF hS
      replace hS := hS.perm (.swap _ _ _)
      replace hS := hS.perm (.cons _ (.swap _ _ _))
      replace hS := hS.perm (.cons _ (.cons _ (.swap _ _ _)))
      replace hS := hS.perm (.cons _ (.cons _ (.cons _ (.swap _ _ _))))
      replace hS : St _ [_] [_, _, _, _, _, _] _ := hS
      refine wpl_ef hF hS rfl (ef_callx fn12 rfl (List.Perm.refl _) (by exact (open_ct _ _ hRo.still.off _ _ hg1 hD22))) ?_
      clear hF hS; rintro _ _ _ a w ⟨_, _, rfl, rfl, ⟨rfl, jb25, qa26, qb27, qc28, qd29, ua30, ub31, uc32, ud33, rfl, rfl, hJ34, hD35⟩⟩ hF hS
      replace hS : St _ [_] [_, _, _, _, _, _, _, _, _, _] _ := hS
      refine wpl_sq hF hS (sq rfl (q_move rfl) <|
        sq rfl (q_extract rfl rfl) <|
        sq rfl (q_extract rfl rfl) <|
        sq rfl (q_assign rfl) <|
        sq rfl (q_assign rfl) <|
        sq_end) ?_
      clear hF hS; intro a w hF hS
      refine wpList_nil ?_
      refine hK32 _ _ ?_
      clear hK32
      refine wp_seq_k ?_; intro K33 hK33
      refine wp_seq_k ?_; intro K34 hK34
      refine reg hF hS (sq rfl (q_move rfl) <|
        sq rfl (q_nf (q_nei rfl rfl) (by simp)) <|
        sq rfl (q_move rfl) <|
        sq_go 130 rfl rfl rfl (q_move rfl) <|
        sq_go 130 rfl rfl rfl (q_eqpn_f ty32 rfl rfl) <|
        sq rfl (q_pick_f rfl rfl) <|
        sq_end) ?_
      clear hF hS; intro a w hF hS
      refine hK34 _ _ ?_
      clear hK34
      refine wp_if hF rfl (fun h => absurd h (by simp)) (fun _ => ?_)
      refine wp_skip ?_
      refine hK33 _ _ ?_
      clear hK33
      refine wp_seq_k ?_; intro K35 hK35
      revert hS; revert hF; apply regJ (J := J3 (α0 := Value) (α1 := Value) (α2 := Value) 179 _ _ _ _ _) #[false, false, false, false, false, false, false, false, false, false, false] 11 mixed rfl rfl
      ·intro w hF hS
       refine goW_take 1 _ rfl kQ rfl hF (hS.keep sQ zQ) (q_move rfl) ?_
       clear hF; intro a hF
       refine goW_take 2 _ rfl kQ rfl hF (hS.keep sQ zQ) (q_move rfl) ?_
       clear hF; intro a hF
       refine goW_take 3 _ rfl kQ rfl hF (hS.keep sQ zQ) (q_slsl_hi ty22 ty9 hz8 rfl rfl (by omega)) ?_
       clear hF; intro a hF
       refine goW_take 5 _ rfl kQ rfl hF (hS.keep sQ zQ) (q_move rfl) ?_
       clear hF; intro a hF
       refine goW_take 6 _ rfl kQ rfl hF (hS.keep sQ zQ) (q_move rfl) ?_
       clear hF; intro a hF
       refine goW_take 7 _ rfl kQ rfl hF (hS.keep sQ zQ) (q_addi rfl rfl (by omega)) ?_
       clear hF; intro a hF
       refine goW_take 8 _ rfl kQ rfl hF (hS.keep sQ zQ) (q_slsl_lo ty22 ty9 hz8 rfl rfl (by omega)) ?_
       clear hF; intro a hF
       refine gQ 0 rfl rfl hF hS rfl (ef_bslice0 ty22 ty9) ?_
       clear hF hS; rintro v_28_0 _ _ a w ⟨rfl, rfl⟩ hF hS
       refine ⟨⟨.inr (hS.keep sQ zQ), .inr (hS.keep sQ zQ), .inr (hS.keep sQ zQ), .inr (hS.keep sQ zQ), .inr (hS.keep sQ zQ), .inr (hS.keep sQ zQ), .inr (hS.keep sQ zQ), trivial⟩, ?_⟩
       refine gQ 4 rfl rfl hF hS rfl (ef_append ty22 ty9 0 rfl rfl rfl (src_slV ty22 (Sl.cut hz8 (by omega)) (.inr (by simp))) bQ rfl (by decide)) ?_
       clear hF hS; rintro v_28_4 _ _ a w ⟨rfl, rfl⟩ hF hS
       refine ⟨⟨.inr (hS.keep sQ zQ), .inr (hS.keep sQ zQ), .inr (hS.keep sQ zQ), .inr (hS.keep sQ zQ), iQ, iQ, iQ, trivial⟩, ?_⟩
       refine gQ 9 rfl rfl hF hS rfl (ef_append ty22 ty9 0 rfl rfl rfl (src_slV ty22 (Sl.cut hz8 (by omega)) (.inr (by simp))) bQ rfl (by decide)) ?_
       clear hF hS; rintro v_28_9 _ _ a w ⟨rfl, rfl⟩ hF hS
       refine ⟨⟨iQ, iQ, .inr (hS.keep sQ zQ), iQ, iQ, iQ, iQ, trivial⟩, ?_⟩
       refine goW_take 10 _ rfl kQ rfl hF (hS.keep sQ zQ) (q_assign rfl) ?_
       clear hF; intro a hF
       exact goW_done kQ (j3_mk v_28_0 v_28_4 v_28_9 (trivial) (hF.sub (L' := [(10, _), (13, _), (17, _), (21, _), (23, _)]) ⟨rfl, rfl, rfl, rfl, rfl, trivial⟩) hS)
      rintro a w ⟨v_28_0, v_28_4, v_28_9, -, hF, hS⟩
      (try dsimp only at hF); (try dsimp only at hS)
      rw [Jn.cut_eq, Jn.cut_len] at hS
      refine hK35 _ _ ?_
      clear hK35
      refine wp_seq_k ?_; intro K36 hK36
      refine wp_seq_k ?_; intro K37 hK37
      refine regl ?_
      refine wpl_sq hF hS (sq rfl (q_move rfl) <|
        sq_end) ?_
      clear hF hS; intro a w hF hS
      replace hS := hS.perm (.swap _ _ _)
      replace hS := hS.perm (.cons _ (.swap _ _ _))
      replace hS := hS.perm (.cons _ (.cons _ (.swap _ _ _)))
      replace hS := hS.perm (.cons _ (.cons _ (.cons _ (.swap _ _ _))))
      replace hS : St _ [_] [_, _, _, _, _, _, _, _, _, _, _] _ := hS
      refine wpl_ef hF hS rfl (ef_callx fn21 rfl (List.Perm.refl _) (by exact (jtexts_ct _ _ _ _ _  hJ34))) ?_
      clear hF hS; rintro v40 _ _ a w ⟨_, _, rfl, rfl, ⟨rfl, qa41, qb42, qc43, qd44, rfl, hJ45⟩⟩ hF hS
      replace hS : St _ [_] [_, _, _, _, _, _, _, _, _, _, _, _] _ := hS
      replace hS : St _ [_] [_, _, _, _, _, _, _, _, _, _, _, _] _ := (hS)
      rw [hfs.1] at hS
      replace hS : St _ [_] [_, _, _, _, _, _, _, _, _, _, _, _] _ := hS
      refine wpl_sq hF hS (sq rfl (q_move rfl) <|
        sq rfl (q_call fn20 rfl (fun w hS => samet_t _ _ _ w (own_slV (f := vs) (xs := (J0.tx.take h9 ++ J0.tx.drop (h9 + 1))) (hS.own _ (List.mem_of_getElem? (i := 0) rfl)).1 (hyp) rfl (by first | decide | omega)) (own_slV (f := vs) (xs := (J0.tx.take h9 ++ J0.tx.drop (h9 + 1))) (hS.own _ (List.mem_of_getElem? (i := 5) rfl)).1 (hyp) rfl (by first | decide | omega))) (fun _ _ _ h => h)) <|
        sq rfl (q_not rfl) <|
        sq rfl (q_move rfl) <|
        sq_go 149 rfl rfl rfl (q_move rfl) <|
        sq_end) ?_
      clear hF hS; intro a w hF hS
      replace hS := hS.perm (.swap _ _ _)
      replace hS := hS.perm (.cons _ (.swap _ _ _))
      replace hS := hS.perm (.cons _ (.cons _ (.swap _ _ _)))
      replace hS := hS.perm (.cons _ (.cons _ (.cons _ (.swap _ _ _))))
      replace hS : St _ [_] [_, _, _, _, _, _, _, _, _, _, _, _] _ := hS
      refine wpl_efg hF hS (wanted_go 149 rfl rfl) rfl (ef_callx fn22 rfl (List.Perm.refl _) (by exact (jbad_ct _ _ _ _ _  hJ45))) ?_
      clear hF hS; rintro v47 _ _ a w ⟨_, _, rfl, rfl, ⟨rfl, qa48, qb49, qc50, qd51, rfl, hJ52⟩⟩ hF hS
      replace hS : St _ [_] [_, _, _, _, _, _, _, _, _, _, _, _, _] _ := hS
      refine wpl_sq hF hS (sq_go 149 rfl rfl rfl (q_len_row ty51 0 rfl rfl) <|
        sq_go 149 rfl rfl rfl (q_df (q_eqi rfl rfl) (by have := hfs.2.1; omega)) <|
        sq rfl (q_pick_f rfl rfl) <|
        sq rfl (q_move rfl) <|
        sq_go 155 rfl rfl rfl (q_move rfl) <|
        sq_end) ?_
      clear hF hS; intro a w hF hS
      replace hS := hS.perm (.swap _ _ _)
      replace hS := hS.perm (.cons _ (.swap _ _ _))
      replace hS := hS.perm (.cons _ (.cons _ (.swap _ _ _)))
      replace hS := hS.perm (.cons _ (.cons _ (.cons _ (.swap _ _ _))))
      replace hS : St _ [_] [_, _, _, _, _, _, _, _, _, _, _, _, _] _ := hS
      refine wpl_efg hF hS (wanted_go 155 rfl rfl) rfl (ef_callx fn22 rfl (List.Perm.refl _) (by exact (jbad_ct _ _ _ _ _  hJ52))) ?_
      clear hF hS; rintro v54 _ _ a w ⟨_, _, rfl, rfl, ⟨rfl, qa55, qb56, qc57, qd58, rfl, hJ59⟩⟩ hF hS
      replace hS : St _ [_] [_, _, _, _, _, _, _, _, _, _, _, _, _, _] _ := hS
      refine wpl_sq hF hS (sq_go 155 rfl rfl rfl (q_len_row ty51 0 rfl rfl) <|
        sq_go 155 rfl rfl rfl (q_move rfl) <|
        sq_go 155 rfl rfl rfl (q_lenM ty45 13 rfl rfl hMm) <|
        sq_go 155 rfl rfl rfl (q_df (q_gti rfl rfl) (by rw [Jn.mT_len]; have := hfs.2.2.1; omega)) <|
        sq rfl (q_pick_f rfl rfl) <|
        sq_end) ?_
      clear hF hS; intro a w hF hS
      refine wpList_nil ?_
      refine hK37 _ _ ?_
      clear hK37
      refine wp_if hF rfl (fun h => absurd h (by simp)) (fun _ => ?_)
      refine wp_skip ?_
      refine hK36 _ _ ?_
      clear hK36
      refine wp_seq_k ?_; intro K38 hK38
      rcases Decidable.em (h9 + 1 = J0.tx.length) with hE | hE
      ·skip
       refine reg hF hS (sq rfl (q_call fn7 rfl (fun w hS => sanity40_ct w (hS.ext _ _ hg1)) (fun _ _ _ h => h)) <|
         sq rfl (q_move rfl) <|
         sq_go 164 rfl rfl rfl (q_move rfl) <|
         sq_go 164 rfl rfl rfl (q_move rfl) <|
         sq_go 164 rfl rfl rfl (q_len_sl ty22 hz8 rfl) <|
         sq_go 164 rfl rfl rfl (q_subi rfl rfl (by omega)) <|
         sq_go 164 rfl rfl rfl (q_dt (q_eqi rfl rfl) (by omega)) <|
         sq_go 164 rfl rfl rfl (q_move rfl) <|
         sq_skip 170 rfl rfl rfl rfl <|
         sq_skip 170 rfl rfl rfl rfl <|
         sq_skip 170 rfl rfl rfl rfl <|
         sq_skip 170 rfl rfl rfl rfl <|
         sq_skip 170 rfl rfl rfl rfl <|
         sq_skip 170 rfl rfl rfl rfl <|
         sq_go 164 rfl rfl rfl (q_pick_t rfl rfl) <|
         sq rfl (q_pick_t rfl rfl) <|
         sq rfl (q_assign rfl) <|
         sq_end) ?_
       clear hF hS; intro a w hF hS
       refine hK38 _ _ ?_
       clear hK38
       refine wp_ret ?_
       exact fn_ret (rs := [.tmp 8]) rfl hF hS (vs := [_]) ⟨rfl, trivial⟩ zQ zQ (rfl)
      ·have hdm := hfs.2.2.2.resolve_left hE
       have hln1 : [(h9 : Int) + 1].length = 1 := rfl
       have hy1 : ∀ x ∈ [(h9 : Int) + 1], -9223372036854775808 ≤ x ∧ x ≤ 9223372036854775807 := fun x hx => by have := List.mem_singleton.1 hx; omega
       refine regl ?_
       refine wpl_sq hF hS (sq rfl (q_call fn7 rfl (fun w hS => sanity40_ct w (hS.ext _ _ hg1)) (fun _ _ _ h => h)) <|
         sq rfl (q_move rfl) <|
         sq_go 164 rfl rfl rfl (q_move rfl) <|
         sq_go 164 rfl rfl rfl (q_move rfl) <|
         sq_go 164 rfl rfl rfl (q_len_sl ty22 hz8 rfl) <|
         sq_go 164 rfl rfl rfl (q_subi rfl rfl (by omega)) <|
         sq_go 164 rfl rfl rfl (q_df (q_eqi rfl rfl) (by omega)) <|
         sq_go 164 rfl rfl rfl (q_move rfl) <|
         sq_go 170 rfl rfl rfl (q_move rfl) <|
         sq_end) ?_
       clear hF hS; intro a w hF hS
       replace hS := hS.perm (.swap _ _ _)
       replace hS := hS.perm (.cons _ (.swap _ _ _))
       replace hS := hS.perm (.cons _ (.cons _ (.swap _ _ _)))
       replace hS := hS.perm (.cons _ (.cons _ (.cons _ (.swap _ _ _))))
       replace hS : St _ [_] [_, _, _, _, _, _, _, _, _, _, _, _, _, _] _ := hS
       refine wpl_efg hF hS (wanted_go 170 rfl rfl) rfl (ef_callx fn24 rfl (List.Perm.refl _) (by exact (jdamaged_ct _ _ _ _ _  hJ59))) ?_
       clear hF hS; rintro v61 _ _ a w ⟨_, _, rfl, rfl, ⟨rfl, qa62, qb63, qc64, qd65, rfl, hJ66⟩⟩ hF hS
       replace hS : St _ [_] [_, _, _, _, _, _, _, _, _, _, _, _, _, _, _] _ := hS
       replace hS : St _ [_] [_, _, _, _, _, _, _, _, _, _, _, _, _, _, _] _ := (hS)
       rw [hdm] at hS
       replace hS : St _ [_] [_, _, _, _, _, _, _, _, _, _, _, _, _, _, _] _ := hS
       refine wpl_sq hF hS (sq_go 170 rfl rfl rfl (q_move rfl) <|
         sq_go 170 rfl rfl rfl (q_addi rfl rfl (by omega)) <|
         sq_end) ?_
       clear hF hS; intro a w hF hS
       refine wpl_efg hF hS (wanted_go 170 rfl rfl) rfl (ef_bsliceA ty51 ty3 rfl rfl oQ (by decide) rfl rfl) ?_
       clear hF hS; rintro v68 _ _ a w ⟨rfl, rfl⟩ hF hS
       replace hS : St _ [_] [_, _, _, _, _, _, _, _, _, _, _, _, _, _, _, _] _ := hS
       refine wpl_sq hF hS (sq_go 170 rfl rfl rfl (q_call fn23 rfl (fun w hS => samei_t _ _ _ w (own_slV (f := vi) (xs := [(h9 : Int) + 1]) (hS.own _ (List.mem_of_getElem? (i := 1) rfl)).1 (hy1) rfl (by first | decide | omega)) (own_slV (f := vi) (xs := [(h9 : Int) + 1]) (hS.own _ (List.mem_of_getElem? (i := 0) rfl)).1 (hy1) rfl (by first | decide | omega))) (fun _ _ _ h => h)) <|
         sq_go 164 rfl rfl rfl (q_pick_f rfl rfl) <|
         sq rfl (q_pick_t rfl rfl) <|
         sq rfl (q_assign rfl) <|
         sq_end) ?_
       clear hF hS; intro a w hF hS
       refine wpList_nil ?_
       refine hK38 _ _ ?_
       clear hK38
       refine wp_ret ?_
       exact fn_ret (rs := [.tmp 8]) rfl hF hS (vs := [_]) ⟨rfl, trivial⟩ zQ zQ (rfl)

set_option maxRecDepth 4000 in
set_option maxHeartbeats 2000000 in
theorem jlaw6x_ct (n : Int) (hn : ¬ (1 ≤ n ∧ n ≤ 4096)) (v : Value) (os : List Stp) (kk : UInt8) (v3 : Value) (bs : List Int) (w : World) (hb1 : Sl encSt (ph w) v os) (hb3 : Sl Go.Fw.encH (ph w) v3 bs) {fz0 fz1 : Nat × Nat} {bt0 bt1 : TypeId} (hg0 : w.heap[0]? = some (.cells (Sha.kc.map vw).toArray bt0 fz0)) (hg1 : w.heap[2]? = some (.cells (Sha.kc.map vw).toArray bt1 fz1)) : Ct Tryz.prog 4 [vi n, v, vb kk, v3] w (fun r _ _ => r = .bool true) := by
 refine fn_enter Tryz.func4 rfl Tryz.ntmps4 (Nat.le_of_ble_eq_true rfl) fun a hF hS => ?_
 have hol := hb1.1
 have hbl := hb3.1
 refine wp_seq_k ?_; intro K1 hK1
 refine reg hF hS (sq rfl (q_assign rfl) <|
   sq_end) ?_
 clear hF hS; intro a w hF hS
 refine hK1 _ _ ?_
 clear hK1
 refine wp_seq_k ?_; intro K2 hK2
 refine wp_seq_k ?_; intro K3 hK3
 refine regl ?_
 refine wpl_sq hF hS (sq rfl (q_move rfl) <|
   sq rfl (q_gti rfl rfl) <|
   sq rfl (q_move rfl) <|
   sq_end) ?_
 clear hF hS; intro a w hF hS
 refine wpl_or 2 26 3 hF hS rfl rfl rfl rfl rfl (fun hg => have hg := (by first | exact of_decide_eq_false hg | exact hg); sq_go 26 rfl rfl rfl (q_move rfl) <|
   sq_go 26 rfl rfl rfl (q_len_sl ty40 hb1 rfl) <|
   sq_go 26 rfl rfl rfl (q_gti rfl rfl) <|
   sq_end) rfl rfl ?_
 clear hF hS; intro a w hF hS
 refine wpl_sq hF hS (sq rfl (q_move rfl) <|
   sq_end) ?_
 clear hF hS; intro a w hF hS
 refine wpl_or 7 31 3 hF hS rfl rfl rfl rfl rfl (fun hg => have hg := hg; sq_go 31 rfl rfl rfl (q_move rfl) <|
   sq_go 31 rfl rfl rfl (q_len_sl ty41 hb3 rfl) <|
   sq_go 31 rfl rfl rfl (q_gti rfl rfl) <|
   sq_end) rfl rfl ?_
 clear hF hS; intro a w hF hS
 refine wpl_sq hF hS (sq rfl (q_move rfl) <|
   sq_end) ?_
 clear hF hS; intro a w hF hS
 refine wpl_or 12 36 3 hF hS rfl rfl rfl rfl rfl (fun hg => have hg := hg; sq_go 36 rfl rfl rfl (q_move rfl) <|
   sq_go 36 rfl rfl rfl (q_len_sl ty41 hb3 rfl) <|
   sq_go 36 rfl rfl rfl (q_eqi rfl rfl) <|
   sq_end) rfl rfl ?_
 clear hF hS; intro a w hF hS
 refine wpList_nil ?_
 refine hK3 _ _ ?_
 clear hK3
 refine wp_if hF rfl (fun hc1 => ?_) (fun hc1 => ?_)
 ·(try simp only [Bool.or_eq_true, Bool.and_eq_true, Bool.or_eq_false_iff, Bool.and_eq_false_iff, decide_eq_true_eq, decide_eq_false_iff_not, Bool.not_eq_true', Bool.not_eq_false'] at hc1)
  refine wp_seq_k ?_; intro K4 hK4
  refine reg hF hS (sq rfl (q_call fn7 rfl (fun w hS => sanity40_ct w (hS.ext _ _ hg1)) (fun _ _ _ h => h)) <|
    sq rfl (q_assign rfl) <|
    sq_end) ?_
  clear hF hS; intro a w hF hS
  refine hK4 _ _ ?_
  clear hK4
  refine wp_ret ?_
  exact fn_ret (rs := [.tmp 8]) rfl hF hS (vs := [_]) ⟨rfl, trivial⟩ zQ zQ (rfl)
 ·(try simp only [Bool.or_eq_true, Bool.and_eq_true, Bool.or_eq_false_iff, Bool.and_eq_false_iff, decide_eq_true_eq, decide_eq_false_iff_not, Bool.not_eq_true', Bool.not_eq_false'] at hc1)
  refine wp_skip ?_
  refine hK2 _ _ ?_
  clear hK2
  refine wp_seq_k ?_; intro K5 hK5
  refine reg hF hS (sq rfl (q_move rfl) <|
    sq rfl (q_move rfl) <|
    sq rfl (q_call fn15 rfl (fun w hS => filledx_ct _ (by omega) _ w ) (fun _ _ _ h => h)) <|
    sq rfl (q_move rfl) <|
    sq rfl (q_extract rfl rfl) <|
    sq rfl (q_extract rfl rfl) <|
    sq rfl (q_extract rfl rfl) <|
    sq rfl (q_assign rfl) <|
    sq rfl (q_assign rfl) <|
    sq rfl (q_assign rfl) <|
    sq_end) ?_
  clear hF hS; intro a w hF hS
  refine hK5 _ _ ?_
  clear hK5
  refine wp_seq_k ?_; intro K6 hK6
  refine wp_seq_k ?_; intro K7 hK7
  refine reg hF hS (sq rfl (q_move rfl) <|
    sq rfl (q_not rfl) <|
    sq rfl (q_move rfl) <|
    sq_skip 51 rfl rfl rfl rfl <|
    sq_skip 51 rfl rfl rfl rfl <|
    sq_skip 51 rfl rfl rfl rfl <|
    sq rfl (q_pick_t rfl rfl) <|
    sq_end) ?_
  clear hF hS; intro a w hF hS
  refine hK7 _ _ ?_
  clear hK7
  refine wp_if hF rfl (fun _ => ?_) (fun h => absurd h (by simp))
  refine wp_seq_k ?_; intro K8 hK8
  refine reg hF hS (sq rfl (q_call fn7 rfl (fun w hS => sanity40_ct w (hS.ext _ _ hg1)) (fun _ _ _ h => h)) <|
    sq rfl (q_move rfl) <|
    sq_go 57 rfl rfl rfl (q_move rfl) <|
    sq_go 57 rfl rfl rfl (q_move rfl) <|
    sq_go 59 rfl rfl rfl (q_move rfl) <|
    sq_go 59 rfl rfl rfl (q_dt (q_lti rfl rfl) (by omega)) <|
    sq_go 57 rfl rfl rfl (q_pick_f rfl rfl) <|
    sq rfl (q_pick_t rfl rfl) <|
    sq rfl (q_assign rfl) <|
    sq_end) ?_
  clear hF hS; intro a w hF hS
  refine hK8 _ _ ?_
  clear hK8
  refine wp_ret ?_
  exact fn_ret (rs := [.tmp 8]) rfl hF hS (vs := [_]) ⟨rfl, trivial⟩ zQ zQ (rfl)

theorem jlaw6_all (nc : Jn.NoCol) (nz : Jn.NoZero) (n : Int) (v : Value) (os : List Stp) (kk : UInt8) (v3 : Value) (bs : List Int) (w : World) (hb1 : Sl encSt (ph w) v os) (hb3 : Sl Go.Fw.encH (ph w) v3 bs) {fz0 fz1 : Nat × Nat} {bt0 bt1 : TypeId} (hg0 : w.heap[0]? = some (.cells (Sha.kc.map vw).toArray bt0 fz0)) (hg1 : w.heap[2]? = some (.cells (Sha.kc.map vw).toArray bt1 fz1)) : Ct Tryz.prog 4 [vi n, v, vb kk, v3] w (fun r _ _ => r = .bool true) := by
 rcases Decidable.em (1 ≤ n ∧ n ≤ 4096) with h | h
 ·obtain ⟨m, rfl⟩ : ∃ m : Nat, n = (m : Int) := ⟨n.toNat, by omega⟩
  exact jlaw6_ct nc nz m (by omega) v os kk v3 bs w hb1 hb3 hg0 hg1
 ·exact jlaw6x_ct n h v os kk v3 bs w hb1 hb3 hg0 hg1
end Go.Proofs.YtibbhobfdbfkkaaGreatDoor
