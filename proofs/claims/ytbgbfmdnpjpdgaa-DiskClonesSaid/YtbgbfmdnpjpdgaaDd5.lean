/- A text of a proof over this seat: walks over the program's functions and the plain laws that they need. -/
import Derived.Test.YtbgbfmdnpjpdgaaDd4
import Derived.Test.YtbgbfmdnpjpdgaaFwD
import Derived.Test.YtbgbfmdnpjpdgaaFwB
set_option linter.all false
namespace Go.Proofs.Ytbgbfmdnpjpdgaa
open Go.Fw
theorem ty31 : Tf Try.prog 31 (.slice 3) 1 24 (Value.slice none 0 0) := ⟨Try.underlying31, by kernel_rfl⟩
theorem fn22 : FnOk Try.prog 22 := ⟨_, Try.func22, rfl, by kernel_rfl⟩
theorem fn51 : FnOk Try.prog 51 := ⟨_, Try.func51, rfl, by kernel_rfl⟩
theorem fn52 : FnOk Try.prog 52 := ⟨_, Try.func52, rfl, by kernel_rfl⟩
theorem fn53 : FnOk Try.prog 53 := ⟨_, Try.func53, rfl, by kernel_rfl⟩
theorem fn54 : FnOk Try.prog 54 := ⟨_, Try.func54, rfl, by kernel_rfl⟩

set_option maxRecDepth 4000 in
set_option maxHeartbeats 2000000 in
theorem dflush_ct (h : Dk.Hd) (S : Dk.Dsk) (w0 : World) (zsr : List PH) {r1 r2 r3 r4 : Res} (hD : DD h S r1 r2 r3 r4) : Cx Try.prog 25 [.pointer (some ⟨h.b, 0, none⟩)] w0 zsr [r1, r2, r3, r4] (DDR h ((Dk.flush S).1) (vi (Dk.flush S).2)) := by
 refine fn_enterx Try.func25 rfl Try.ntmps25 (Nat.le_of_ble_eq_true rfl) fun hsr a w hF hS => ?_
 replace hS : St _ (_) (_ :: _ :: _ :: _ :: _) _ := hS
 have hO := Dk.DOk.ok hD
 refine wp_seq_k ?_; intro K1 hK1
 refine reg hF hS (sq rfl (q_assign rfl) <|
   sq_end) ?_
 clear hF hS; intro a w hF hS
 refine hK1 _ _ ?_
 clear hK1
 refine wp_seq_k ?_; intro K2 hK2
 refine wp_seq_k ?_; intro K3 hK3
 refine regl ?_
 refine wpl_sq hF hS (sq rfl (q_move rfl) <|
   sq_end) ?_
 clear hF hS; intro a w hF hS
 refine wpl_ef hF hS rfl (ef_callx fn46 rfl (List.Perm.refl _) (by exact (dcheck_ct _ _ _ _ _  hD))) ?_
 clear hF hS; rintro _ _ _ a w ⟨_, _, rfl, rfl, ⟨rfl, rfl, qa2, qb3, qc4, qd5, rfl, hD6⟩⟩ hF hS
 replace hS : St _ (_) (_ :: _ :: _ :: _ :: _) _ := hS
 refine wpl_sq hF hS (sq rfl (q_assign rfl) <|
   sq_end) ?_
 clear hF hS; intro a w hF hS
 refine wpList_nil ?_
 refine hK3 _ _ ?_
 clear hK3
 refine wp_seq_k ?_; intro K4 hK4
 refine reg hF hS (sq rfl (q_move rfl) <|
   sq rfl (q_nei rfl rfl) <|
   sq_end) ?_
 clear hF hS; intro a w hF hS
 refine hK4 _ _ ?_
 clear hK4
 refine wp_ifn hF rfl (fun hc1 => ?_) (fun hc1 => ?_)
 ·refine wp_seq_k ?_; intro K5 hK5
  refine reg hF hS (sq rfl (q_move rfl) <|
    sq rfl (q_assign rfl) <|
    sq_end) ?_
  clear hF hS; intro a w hF hS
  refine hK5 _ _ ?_
  clear hK5
  refine wp_ret ?_
  exact fn_retx (rs := [.tmp 2]) rfl hF hS (vs := [_]) ⟨rfl, trivial⟩ [] [_, _, _, _] sQ sQ (Dk.dr_of (S := S) ⟨rfl, rfl, _, _, _, _, rfl, hD6⟩ (by rw [Dk.flush_1 (Dk.off_of hO hc1).1]) (by rw [Dk.flush_1 (Dk.off_of hO hc1).1, (Dk.off_of hO hc1).2]))
 ·have hc0 : Dk.check S 0 = 0 := by omega
  have hof := (Dk.check_0 hc0).1
  refine wp_skip ?_
  refine hK2 _ _ ?_
  clear hK2
  refine wp_seq_k ?_; intro K6 hK6
  refine wp_seq_k ?_; intro K7 hK7
  refine regl ?_
  refine wpl_sq hF hS (sq rfl (q_move rfl) <|
    sq_end) ?_
  clear hF hS; intro a w hF hS
  refine wpl_ef hF hS rfl (ef_callx fn47 rfl (List.Perm.refl _) (by exact (dstep_ct _ _ _ _  hD6))) ?_
  clear hF hS; rintro _ _ _ a w ⟨_, _, rfl, rfl, ⟨rfl, rfl, qa8, qb9, qc10, qd11, rfl, hD12⟩⟩ hF hS
  replace hS : St _ (_) (_ :: _ :: _ :: _ :: _) _ := hS
  refine wpl_sq hF hS (sq rfl (q_assign rfl) <|
    sq_end) ?_
  clear hF hS; intro a w hF hS
  refine wpList_nil ?_
  refine hK7 _ _ ?_
  clear hK7
  refine wp_seq_k ?_; intro K8 hK8
  refine reg hF hS (sq rfl (q_move rfl) <|
    sq rfl (q_nei rfl rfl) <|
    sq_end) ?_
  clear hF hS; intro a w hF hS
  refine hK8 _ _ ?_
  clear hK8
  refine wp_ifn hF rfl (fun hc2 => ?_) (fun hc2 => ?_)
  ·refine wp_seq_k ?_; intro K9 hK9
   refine reg hF hS (sq rfl (q_move rfl) <|
     sq rfl (q_assign rfl) <|
     sq_end) ?_
   clear hF hS; intro a w hF hS
   refine hK9 _ _ ?_
   clear hK9
   refine wp_ret ?_
   exact fn_retx (rs := [.tmp 2]) rfl hF hS (vs := [_]) ⟨rfl, trivial⟩ [] [_, _, _, _] sQ sQ (Dk.dr_of (S := (Dk.step S).1) ⟨rfl, rfl, _, _, _, _, rfl, hD12⟩ (by rw [Dk.flush_2 hof hc2]) (by rw [Dk.flush_2 hof hc2]))
  ·have hs0 : (Dk.step S).2 = 0 := by omega
   have hO1 := Dk.ok_step hO
   refine wp_skip ?_
   refine hK6 _ _ ?_
   clear hK6
   refine wp_seq_k ?_; intro K10 hK10
   refine wp_seq_k ?_; intro K11 hK11
   refine regl ?_
   refine wpl_sq hF hS (sq rfl (q_move rfl) <|
     sq_end) ?_
   clear hF hS; intro a w hF hS
   refine wpl_ef hF hS rfl (ef_callx fn22 rfl (List.Perm.refl _) (by exact (dpending_ct _ _ _ _  hD12))) ?_
   clear hF hS; rintro v13 _ _ a w ⟨_, _, rfl, rfl, ⟨rfl, qa14, qb15, qc16, qd17, rfl, hD18⟩⟩ hF hS
   replace hS : St _ (_) (_ :: _ :: _ :: _ :: _ :: _) _ := hS
   refine wpl_sq hF hS (sq rfl (q_len_row ty31 0 rfl rfl) <|
     sq rfl (q_move rfl) <|
     sq_end) ?_
   clear hF hS; intro a w hF hS
   refine wpList_nil ?_
   refine hK11 _ _ ?_
   clear hK11
   refine wp_block ?_
   obtain ⟨hs0, hhs0, hS⟩ : ∃ h, h = _ ∧ St _ _ h _ := ⟨_, rfl, hS⟩
   refine wp_loopx (γ := Res × Res × Res × Res × Nat) (qa14, qb15, qc16, qd17, 0) (fun (gg : Res × Res × Res × Res × Nat) => match gg with | (q1, q2, q3, q4, j) => [(20, vi (j : Int))]) [(0, _), (18, _), (19, _)] (fun (gg : Res × Res × Res × Res × Nat) => match gg with | (q1, q2, q3, q4, j) => ((((hs0.set 1 (q1)).set 2 (q2)).set 3 (q3)).set 4 (q4))) (fun (gg : Res × Res × Res × Res × Nat) => match gg with | (q1, q2, q3, q4, j) => j ≤ (Dk.dix (Dk.step S).1).length ∧ DD h (Dk.mst (Dk.step S).1 [] j) q1 q2 q3 q4) (fun (gg : Res × Res × Res × Res × Nat) => match gg with | (q1, q2, q3, q4, j) => (Dk.dix (Dk.step S).1).length - j) (hF.sub ⟨rfl, rfl, rfl, rfl, trivial⟩) (by subst hhs0; exact hS) (by exact ⟨Nat.zero_le _, by rw [Dk.mst_0]; exact hD18⟩) ?_
   clear hF hS; rintro ⟨q1, q2, q3, q4, j⟩ a w hfact hF hS
   subst hhs0; (try dsimp only at hfact); (try dsimp only at hF); (try dsimp only at hS)
   obtain ⟨hj0, hDq⟩ := hfact
   replace hS : St _ (_) (_ :: _ :: _ :: _ :: _ :: _) _ := hS
   refine wp_seq_k ?_; intro K12 hK12
   refine reg hF hS (sq rfl (q_lti rfl rfl) <|
     sq_end) ?_
   clear hF hS; intro a w hF hS
   refine hK12 _ _ ?_
   clear hK12
   refine wp_seq_k ?_; intro K13 hK13
   refine wp_ifd hF rfl (fun hc3 => ?_) (fun hc3 => ?_)
   ·obtain ⟨hsx, hsy, hsz⟩ := Dk.mst_step (Dk.step S).1 [] (j := j) (by omega)
    have hdl := Dk.dix_len (Dk.step S).1
    have hdh := hO1.hi
    have hdr := Dk.dix_rng hO1 (Dk.getD_mem (l := Dk.dix (Dk.step S).1) (j := j) (d := 0) (by omega))
    refine wp_skip ?_
    refine hK13 _ _ ?_
    clear hK13
    refine wp_seq_k ?_; intro K14 hK14
    refine wp_block ?_
    refine wp_seq_k ?_; intro K15 hK15
    refine reg hF hS (sq rfl (q_idx_row ty31 ty3 0 rfl rfl rfl (by omega)) <|
      sq rfl (q_ld_rowM ty3 0 (0 : Int) rfl rfl bQ rfl) <|
      sq rfl (q_assign rfl) <|
      sq_end) ?_
    clear hF hS; intro a w hF hS
    rw [Int.toNat_natCast] at hF
    refine hK15 _ _ ?_
    clear hK15
    refine regl ?_
    refine wpl_sq hF hS (sq rfl (q_move rfl) <|
      sq rfl (q_move rfl) <|
      sq_end) ?_
    clear hF hS; intro a w hF hS
    replace hS := hS.perm (.swap _ _ _)
    replace hS := hS.perm (.cons _ (.swap _ _ _))
    replace hS := hS.perm (.cons _ (.cons _ (.swap _ _ _)))
    replace hS := hS.perm (.cons _ (.cons _ (.cons _ (.swap _ _ _))))
    replace hS : St _ (_) (_ :: _ :: _ :: _ :: _ :: _) _ := hS
    refine wpl_ef hF hS rfl (ef_callx fn51 rfl (List.Perm.refl _) (by exact (dsettle_ct _ _ _ _ (by first | assumption | omega) (by assumption) (by omega) _ _  hDq))) ?_
    clear hF hS; rintro _ _ _ a w ⟨_, _, rfl, rfl, ⟨rfl, rfl, qa21, qb22, qc23, qd24, rfl, hD25⟩⟩ hF hS
    replace hS : St _ (_) (_ :: _ :: _ :: _ :: _ :: _) _ := hS
    refine wpList_nil ?_
    refine hK14 _ _ ?_
    clear hK14
    refine reg hF hS (sq rfl (q_addi rfl rfl (by omega)) <|
      sq rfl (q_move rfl) <|
      sq_end) ?_
    clear hF hS; intro a w hF hS
    replace hS := hS.perm (.cons _ (.cons _ (.cons _ (.swap _ _ _))))
    replace hS := hS.perm (.cons _ (.cons _ (.swap _ _ _)))
    replace hS := hS.perm (.cons _ (.swap _ _ _))
    replace hS := hS.perm (.swap _ _ _)
    replace hS := hS.keep sQ sQ
    refine ⟨(qa21, qb22, qc23, qd24, j + 1), ?_, ?_, hF.sub ⟨rfl, rfl, rfl, rfl, trivial⟩, ?_⟩
    ·(try dsimp only); omega
    ·exact ⟨by omega, hsz ▸ hD25⟩
    ·exact hS
   ·refine wp_exit ?_
    refine hK10 _ _ ?_
    clear hK10
    refine wp_seq_k ?_; intro K16 hK16
    refine reg hF hS (sq rfl (q_assign rfl) <|
      sq_end) ?_
    clear hF hS; intro a w hF hS
    refine hK16 _ _ ?_
    clear hK16
    refine wp_ret ?_
    replace hS := hS.perm (.swap _ _ _)
    replace hS := hS.perm (.cons _ (.swap _ _ _))
    replace hS := hS.perm (.cons _ (.cons _ (.swap _ _ _)))
    replace hS := hS.perm (.cons _ (.cons _ (.cons _ (.swap _ _ _))))
    exact fn_retx (rs := [.tmp 2]) rfl hF hS (vs := [_]) ⟨rfl, trivial⟩ [] [_, _, _, _] sQ (sQ.n.k.k.k.k) (Dk.dr_of (S := Dk.mst (Dk.step S).1 [] j) ⟨rfl, rfl, _, _, _, _, rfl, hDq⟩ (by rw [Dk.flush_3 hof hs0, show j = (Dk.dix (Dk.step S).1).length by omega]) (by rw [Dk.flush_3 hof hs0]))

set_option maxRecDepth 4000 in
set_option maxHeartbeats 2000000 in
theorem dmount_ct (h : Dk.Hd) (S : Dk.Dsk) (pv : Value) (ps : List Int) (w0 : World) (zsr : List PH) (z : PH) (hps : Sl Go.Fw.encI z pv ps) (hz : ZIn w0 zsr z) {r1 r2 r3 r4 : Res} (hD : DD h S r1 r2 r3 r4) : Cx Try.prog 26 [.pointer (some ⟨h.b, 0, none⟩), pv] w0 zsr [r1, r2, r3, r4] (DDR h (Dk.mount S ps) (.tuple ([] : List Value).toArray)) := by
 refine fn_enterx Try.func26 rfl Try.ntmps26 (Nat.le_of_ble_eq_true rfl) fun hsr a w hF hS => ?_
 replace hS : St _ (_) (_ :: _ :: _ :: _ :: _) _ := hS
 have hO := Dk.DOk.ok hD
 have hpr := sl_rng hps
 have hpl := hps.1
 refine wp_seq_k ?_; intro K1 hK1
 refine wp_seq_k ?_; intro K2 hK2
 refine regl ?_
 refine wpl_sq hF hS (sq rfl (q_move rfl) <|
   sq_end) ?_
 clear hF hS; intro a w hF hS
 refine wpl_ef hF hS rfl (ef_callx fn22 rfl (List.Perm.refl _) (by exact (dpending_ct _ _ _ _  hD))) ?_
 clear hF hS; rintro v1 _ _ a w ⟨_, _, rfl, rfl, ⟨rfl, qa2, qb3, qc4, qd5, rfl, hD6⟩⟩ hF hS
 replace hS : St _ (_) (_ :: _ :: _ :: _ :: _ :: _) _ := hS
 refine wpl_sq hF hS (sq rfl (q_len_row ty31 0 rfl rfl) <|
   sq rfl (q_move rfl) <|
   sq_end) ?_
 clear hF hS; intro a w hF hS
 refine wpList_nil ?_
 refine hK2 _ _ ?_
 clear hK2
 refine wp_block ?_
 obtain ⟨hs0, hhs0, hS⟩ : ∃ h, h = _ ∧ St _ _ h _ := ⟨_, rfl, hS⟩
 refine wp_loopx (γ := Res × Res × Res × Res × Nat) (qa2, qb3, qc4, qd5, 0) (fun (gg : Res × Res × Res × Res × Nat) => match gg with | (q1, q2, q3, q4, j) => [(10, vi (j : Int))]) [(0, _), (1, _), (8, _), (9, _)] (fun (gg : Res × Res × Res × Res × Nat) => match gg with | (q1, q2, q3, q4, j) => ((((hs0.set 1 (q1)).set 2 (q2)).set 3 (q3)).set 4 (q4))) (fun (gg : Res × Res × Res × Res × Nat) => match gg with | (q1, q2, q3, q4, j) => j ≤ (Dk.dix S).length ∧ DD h (Dk.mst S ps j) q1 q2 q3 q4) (fun (gg : Res × Res × Res × Res × Nat) => match gg with | (q1, q2, q3, q4, j) => (Dk.dix S).length - j) (hF.sub ⟨rfl, rfl, rfl, rfl, rfl, trivial⟩) (by subst hhs0; exact hS) (by exact ⟨Nat.zero_le _, by rw [Dk.mst_0]; exact hD6⟩) ?_
 clear hF hS; rintro ⟨q1, q2, q3, q4, j⟩ a w hfact hF hS
 subst hhs0; (try dsimp only at hfact); (try dsimp only at hF); (try dsimp only at hS)
 obtain ⟨hj0, hDq⟩ := hfact
 replace hS : St _ (_) (_ :: _ :: _ :: _ :: _ :: _) _ := hS
 refine wp_seq_k ?_; intro K3 hK3
 refine reg hF hS (sq rfl (q_lti rfl rfl) <|
   sq_end) ?_
 clear hF hS; intro a w hF hS
 refine hK3 _ _ ?_
 clear hK3
 refine wp_seq_k ?_; intro K4 hK4
 refine wp_ifd hF rfl (fun hc1 => ?_) (fun hc1 => ?_)
 ·obtain ⟨hsx, hsy, hsz⟩ := Dk.mst_step S ps (j := j) (by omega)
  have hdl := Dk.dix_len S
  have hdh := hO.hi
  have hdr := Dk.dix_rng hO (Dk.getD_mem (l := Dk.dix S) (j := j) (d := 0) (by omega))
  have hpk9 := Dk.pk_rng hpr j
  refine wp_skip ?_
  refine hK4 _ _ ?_
  clear hK4
  refine wp_seq_k ?_; intro K5 hK5
  refine wp_block ?_
  refine wp_seq_k ?_; intro K6 hK6
  refine reg hF hS (sq rfl (q_move rfl) <|
    sq rfl (q_idx_row ty31 ty3 0 rfl rfl rfl (by omega)) <|
    sq rfl (q_ld_rowM ty3 0 (0 : Int) rfl rfl bQ rfl) <|
    sq rfl (q_assign rfl) <|
    sq rfl (q_assign rfl) <|
    sq_end) ?_
  clear hF hS; intro a w hF hS
  rw [Int.toNat_natCast] at hF
  refine hK6 _ _ ?_
  clear hK6
  refine wp_seq_k ?_; intro K7 hK7
  refine reg hF hS (sq rfl (q_assign rfl) <|
    sq_end) ?_
  clear hF hS; intro a w hF hS
  refine hK7 _ _ ?_
  clear hK7
  obtain ⟨hs0, hhs0, hS⟩ : ∃ h, h = _ ∧ St _ _ h _ := ⟨_, rfl, hS⟩
  refine wp_cutx (γ := Int) (fun (p : Int) => [(6, vi p)]) [(0, _), (1, _), (5, _), (8, _), (9, _), (10, _)] (fun (p : Int) => hs0) (fun (p : Int) => p = Dk.pk ps j) (hF.sub ⟨rfl, rfl, rfl, rfl, rfl, rfl, trivial⟩) hS ?_ ?_
  ·subst hhs0
   refine wp_seq_k ?_; intro K8 hK8
   refine reg hF hS (sq rfl (q_move rfl) <|
     sq rfl (q_move rfl) <|
     sq rfl (q_len_sl ty31 hps rfl) <|
     sq rfl (q_lti rfl rfl) <|
     sq_end) ?_
   clear hF hS; intro a w hF hS
   refine hK8 _ _ ?_
   clear hK8
   refine wp_ifd hF rfl (fun hc2 => ?_) (fun hc2 => ?_)
   ·refine reg hF hS (sq rfl (q_move rfl) <|
      sq rfl (q_move rfl) <|
      sq rfl (q_idx_sl ty31 ty3 hps rfl rfl (by omega)) <|
      sq rfl (q_ld_I ty3 hps hz rfl rfl (by omega)) <|
      sq rfl (q_assign rfl) <|
      sq_end) ?_
    clear hF hS; intro a w hF hS
    refine ⟨((ps.getD ((j : Int)).toNat 0)), ?_, hF.sub ⟨rfl, rfl, rfl, rfl, rfl, rfl, rfl, trivial⟩, ?_⟩
    ·rw [Int.toNat_natCast]; exact (Dk.pk_1 (by omega)).symm
    ·exact hS
   ·refine wp_skip ?_
    refine ⟨(64), ?_, hF.sub ⟨rfl, rfl, rfl, rfl, rfl, rfl, rfl, trivial⟩, ?_⟩
    ·exact (Dk.pk_2 (by omega)).symm
    ·exact hS
  clear hF hS; rintro p a w hfact hF hS
  subst hhs0; (try dsimp only at hfact); (try dsimp only at hF); (try dsimp only at hS)
  have hpk := hfact
  replace hS : St _ (_) (_ :: _ :: _ :: _ :: _ :: _) _ := hS
  subst hpk
  refine regl ?_
  refine wpl_sq hF hS (sq rfl (q_move rfl) <|
    sq rfl (q_move rfl) <|
    sq rfl (q_move rfl) <|
    sq_end) ?_
  clear hF hS; intro a w hF hS
  replace hS := hS.perm (.swap _ _ _)
  replace hS := hS.perm (.cons _ (.swap _ _ _))
  replace hS := hS.perm (.cons _ (.cons _ (.swap _ _ _)))
  replace hS := hS.perm (.cons _ (.cons _ (.cons _ (.swap _ _ _))))
  replace hS : St _ (_) (_ :: _ :: _ :: _ :: _ :: _) _ := hS
  refine wpl_ef hF hS rfl (ef_callx fn51 rfl (List.Perm.refl _) (by exact (dsettle_ct _ _ _ _ (by first | assumption | omega) (by assumption) (by omega) _ _  hDq))) ?_
  clear hF hS; rintro _ _ _ a w ⟨_, _, rfl, rfl, ⟨rfl, rfl, qa9, qb10, qc11, qd12, rfl, hD13⟩⟩ hF hS
  replace hS : St _ (_) (_ :: _ :: _ :: _ :: _ :: _) _ := hS
  refine wpList_nil ?_
  refine hK5 _ _ ?_
  clear hK5
  refine reg hF hS (sq rfl (q_addi rfl rfl (by omega)) <|
    sq rfl (q_move rfl) <|
    sq_end) ?_
  clear hF hS; intro a w hF hS
  replace hS := hS.perm (.cons _ (.cons _ (.cons _ (.swap _ _ _))))
  replace hS := hS.perm (.cons _ (.cons _ (.swap _ _ _)))
  replace hS := hS.perm (.cons _ (.swap _ _ _))
  replace hS := hS.perm (.swap _ _ _)
  replace hS := hS.keep sQ sQ
  refine ⟨(qa9, qb10, qc11, qd12, j + 1), ?_, ?_, hF.sub ⟨rfl, rfl, rfl, rfl, rfl, trivial⟩, ?_⟩
  ·(try dsimp only); omega
  ·exact ⟨by omega, hsz ▸ hD13⟩
  ·exact hS
 ·obtain ⟨lz, e1z, c1z, m1z, e2z, c2z, m2z, hOz, hlz, hlrz, hM1z, hM2z, hPz, hWz, rfl, rfl, rfl, rfl⟩ := hDq
  have hloz := hOz.lo
  have hhiz := hOz.hi
  have hlfz := hOz.lf
  have hlgz := hOz.lf2
  have hblz := Dk.bl_len (Dk.mst S ps j)
  have hbsz := Dk.bl_64 hOz
  replace hS : St _ (_) (_ :: _ :: _ :: _ :: _ :: _) _ := hS
  have hje : (Dk.dix S).length ≤ j := by omega
  refine wp_exit ?_
  refine hK1 _ _ ?_
  clear hK1
  refine regl ?_
  refine wpl_sq hF hS (sq rfl (q_move rfl) <|
    sq rfl (q_move rfl) <|
    sq rfl (q_nilCheck rfl) <|
    sq rfl (q_fieldAddr ty71 rfl rfl (s' := 0) kQ) <|
    sq_end) ?_
  clear hF hS; intro a w hF hS
  refine wpl_ef hF hS rfl (ef_store1 ty4 1 rfl rfl rfl rfl (by simp)) ?_
  clear hF hS; rintro _ _ _ a w ⟨rfl, rfl, rfl⟩ hF hS
  replace hS : St _ (_) (_ :: .blk _ _ ([_, _, _, _, _].set 3 _) :: _ :: _ :: _ :: _) _ := hS
  simp only [List.set_cons_zero, List.set_cons_succ] at hS
  replace hS : St _ (_) (_ :: _ :: _ :: _ :: _ :: _) _ := hS
  refine wpl_sq hF hS (sq rfl (q_nilCheck rfl) <|
    sq rfl (q_fieldAddr ty71 rfl rfl (s' := 0) kQ) <|
    sq_end) ?_
  clear hF hS; intro a w hF hS
  refine wpl_ef hF hS rfl (ef_store1 ty3 1 rfl rfl rfl rfl (by simp)) ?_
  clear hF hS; rintro _ _ _ a w ⟨rfl, rfl, rfl⟩ hF hS
  replace hS : St _ (_) (_ :: .blk _ _ ([_, _, _, _, _].set 4 _) :: _ :: _ :: _ :: _) _ := hS
  simp only [List.set_cons_zero, List.set_cons_succ] at hS
  replace hS : St _ (_) (_ :: _ :: _ :: _ :: _ :: _) _ := hS
  refine wpList_nil ?_
  -- falls off the end
  replace hS := hS.perm (.swap _ _ _)
  replace hS := hS.perm (.cons _ (.swap _ _ _))
  replace hS := hS.perm (.cons _ (.cons _ (.swap _ _ _)))
  replace hS := hS.perm (.cons _ (.cons _ (.cons _ (.swap _ _ _))))
  exact fn_retx (rs := []) rfl hF hS (vs := []) trivial [] [_, _, _, _] sQ (sQ.n.k.k.k.k) (Dk.dr_of (S := ⟨(Dk.mst S ps j).s, false, -1⟩) ⟨rfl, rfl, _, _, _, _, rfl, ⟨(-1), e1z, c1z, m1z, e2z, c2z, m2z, ⟨hOz.sec, hOz.lo, hOz.hi, by dsimp only; decide, by dsimp only; decide⟩, rfl, (by decide), hM1z, hM2z, hPz, hWz, rfl, rfl, rfl, rfl⟩⟩ (Dk.mount_eq S ps hje) (rfl))

set_option maxRecDepth 4000 in
set_option maxHeartbeats 2000000 in
theorem dnew_ct (n : Nat) (hn : 1 ≤ n ∧ n ≤ 4096) (w : World) : Ct Try.prog 14 [vi (n : Int)] w (DDN (Dk.new n) (fun p => .tuple [p, vi 0].toArray)) := by
 refine fn_enter Try.func14 rfl Try.ntmps14 (Nat.le_of_ble_eq_true rfl) fun a hF hS => ?_
 refine wp_seq_k ?_; intro K1 hK1
 refine reg hF hS (sq rfl (q_assign rfl) <|
   sq rfl (q_assign rfl) <|
   sq_end) ?_
 clear hF hS; intro a w hF hS
 refine hK1 _ _ ?_
 clear hK1
 refine wp_seq_k ?_; intro K2 hK2
 refine wp_seq_k ?_; intro K3 hK3
 refine regl ?_
 refine wpl_sq hF hS (sq rfl (q_move rfl) <|
   sq rfl (q_lti rfl rfl) <|
   sq rfl (q_move rfl) <|
   sq_end) ?_
 clear hF hS; intro a w hF hS
 refine wpl_or 2 6 2 hF hS rfl rfl rfl rfl rfl (fun hg => have hg := (by first | exact of_decide_eq_false hg | exact hg); sq_go 6 rfl rfl rfl (q_move rfl) <|
   sq_go 6 rfl rfl rfl (q_gti rfl rfl) <|
   sq_end) rfl rfl ?_
 clear hF hS; intro a w hF hS
 refine wpList_nil ?_
 refine hK3 _ _ ?_
 clear hK3
 refine wp_if hF rfl (fun hc1 => ?_) (fun hc1 => ?_)
 ·(try simp only [Bool.or_eq_true, Bool.and_eq_true, Bool.or_eq_false_iff, Bool.and_eq_false_iff, decide_eq_true_eq, decide_eq_false_iff_not, Bool.not_eq_true', Bool.not_eq_false'] at hc1)
  exfalso; omega
 ·(try simp only [Bool.or_eq_true, Bool.and_eq_true, Bool.or_eq_false_iff, Bool.and_eq_false_iff, decide_eq_true_eq, decide_eq_false_iff_not, Bool.not_eq_true', Bool.not_eq_false'] at hc1)
  refine wp_skip ?_
  refine hK2 _ _ ?_
  clear hK2
  refine wp_seq_k ?_; intro K4 hK4
  refine regl ?_
  refine wpl_sq hF hS (sq rfl (q_move rfl) <|
    sq_end) ?_
  clear hF hS; intro a w hF hS
  refine wpl_ef hF hS rfl (ef_mksS ty67 ty74 rfl rfl (by omega) (by omega) rfl (by decide) (by omega)) ?_
  clear hF hS; rintro v1 _ _ a w ⟨rfl, rfl⟩ hF hS
  replace hS : St _ [] [_] _ := hS
  refine wpl_ef hF hS rfl (ef_mkmap) ?_
  clear hF hS; rintro _ _ _ a w ⟨b3, rfl, rfl, rfl⟩ hF hS
  replace hS : St _ [] [_, _] _ := hS
  refine wpl_ef hF hS rfl (ef_mkmap) ?_
  clear hF hS; rintro _ _ _ a w ⟨b5, rfl, rfl, rfl⟩ hF hS
  replace hS : St _ [] [_, _, _] _ := hS
  refine wpl_sq hF hS (sq rfl (q_buildP (places := [(0, 1), (1, 1), (2, 1), (3, 1), (4, 1)]) (cells := [_, _, _, .bool false, _]) ty71 kQ rfl (fill_stepL (c := [_]) (l := [_, _, _, _, _]) (l' := [_, _, _, _, _]) rfl (cells_one (row_one (hS.own _ (List.mem_of_getElem? (i := 2) rfl)).1)) rfl (Nat.le_of_ble_eq_true rfl) rfl (fill_stepL (c := [_]) (l := [_, _, _, _, _]) (l' := [_, _, _, _, _]) rfl (cells_one rfl) rfl (Nat.le_of_ble_eq_true rfl) rfl (fill_stepL (c := [_]) (l := [_, _, _, _, _]) (l' := [_, _, _, _, _]) rfl (cells_one rfl) rfl (Nat.le_of_ble_eq_true rfl) rfl (fill_stepL (c := [_]) (l := [_, _, _, _, _]) (l' := [_, _, _, _, _]) rfl (cells_one rfl) rfl (Nat.le_of_ble_eq_true rfl) rfl (fill_endL rfl)))))) <|
    sq_end) ?_
  clear hF hS; intro a w hF hS
  refine wpl_ef hF hS rfl (ef_boxA rfl) ?_
  clear hF hS; rintro _ _ _ a w ⟨b7, rfl, rfl, rfl⟩ hF hS
  refine wpl_sq hF hS (sq rfl (q_assign rfl) <|
    sq rfl (q_assign rfl) <|
    sq_end) ?_
  clear hF hS; intro a w hF hS
  refine wpList_nil ?_
  rw [Dk.new_cells] at hS
  refine hK4 _ _ ?_
  clear hK4
  refine wp_ret ?_
  replace hS := hS.perm (.cons _ (.cons _ (.swap _ _ _)))
  replace hS := hS.perm (.cons _ (.swap _ _ _))
  replace hS := hS.perm (.cons _ (.cons _ (.swap _ _ _)))
  exact fn_ret (rs := [.tmp 2, .tmp 3]) rfl hF hS (vs := [_, _]) ⟨rfl, rfl, trivial⟩ sQ sQ ⟨rfl, ⟨b7, v1, b3, b5⟩, _, _, _, _, rfl, rfl, ⟨-1, [], 0, [], [], 0, [], Dk.ok_new hn.1 hn.2, rfl, by decide, MpT.nil, MpT.nil, Dk.MOk.nil (Dk.new_pend n), Dk.MOk.nil (Dk.new_wrn n), rfl, by rw [Dk.new_len], rfl, rfl⟩⟩

set_option maxRecDepth 4000 in
set_option maxHeartbeats 2000000 in
theorem dnewx_ct (n : Int) (hn : ¬ (1 ≤ n ∧ n ≤ 4096)) (w : World) : Ct Try.prog 14 [vi n] w (fun r zs hs => r = .tuple [.pointer none, vi 1].toArray) := by
 refine fn_enter Try.func14 rfl Try.ntmps14 (Nat.le_of_ble_eq_true rfl) fun a hF hS => ?_
 refine wp_seq_k ?_; intro K1 hK1
 refine reg hF hS (sq rfl (q_assign rfl) <|
   sq rfl (q_assign rfl) <|
   sq_end) ?_
 clear hF hS; intro a w hF hS
 refine hK1 _ _ ?_
 clear hK1
 refine wp_seq_k ?_; intro K2 hK2
 refine wp_seq_k ?_; intro K3 hK3
 refine regl ?_
 refine wpl_sq hF hS (sq rfl (q_move rfl) <|
   sq rfl (q_lti rfl rfl) <|
   sq rfl (q_move rfl) <|
   sq_end) ?_
 clear hF hS; intro a w hF hS
 refine wpl_or 2 6 2 hF hS rfl rfl rfl rfl rfl (fun hg => have hg := (by first | exact of_decide_eq_false hg | exact hg); sq_go 6 rfl rfl rfl (q_move rfl) <|
   sq_go 6 rfl rfl rfl (q_gti rfl rfl) <|
   sq_end) rfl rfl ?_
 clear hF hS; intro a w hF hS
 refine wpList_nil ?_
 refine hK3 _ _ ?_
 clear hK3
 refine wp_if hF rfl (fun hc1 => ?_) (fun hc1 => ?_)
 ·(try simp only [Bool.or_eq_true, Bool.and_eq_true, Bool.or_eq_false_iff, Bool.and_eq_false_iff, decide_eq_true_eq, decide_eq_false_iff_not, Bool.not_eq_true', Bool.not_eq_false'] at hc1)
  refine wp_seq_k ?_; intro K4 hK4
  refine reg hF hS (sq rfl (q_assign rfl) <|
    sq rfl (q_assign rfl) <|
    sq_end) ?_
  clear hF hS; intro a w hF hS
  refine hK4 _ _ ?_
  clear hK4
  refine wp_ret ?_
  exact fn_ret (rs := [.tmp 2, .tmp 3]) rfl hF hS (vs := [_, _]) ⟨rfl, rfl, trivial⟩ zQ zQ (rfl)
 ·(try simp only [Bool.or_eq_true, Bool.and_eq_true, Bool.or_eq_false_iff, Bool.and_eq_false_iff, decide_eq_true_eq, decide_eq_false_iff_not, Bool.not_eq_true', Bool.not_eq_false'] at hc1)
  exfalso; omega

set_option maxRecDepth 4000 in
set_option maxHeartbeats 2000000 in
theorem sclone_ct (v : Value) (n : Nat) (xs : List (List UInt8)) (hn : 1 ≤ n ∧ n ≤ 4096) (w0 : World) (zsr : List PH) : Cx Try.prog 52 [v] w0 zsr [.row v 74 64 n (xs.flatten.map vb)] (fun r zs hs => zs = [] ∧ hs = [.row r 74 64 n (xs.flatten.map vb), .row v 74 64 n (xs.flatten.map vb)]) := by
 refine fn_enterx Try.func52 rfl Try.ntmps52 (Nat.le_of_ble_eq_true rfl) fun hsr a w hF hS => ?_
 replace hS : St _ (_) (_ :: _) _ := hS
 refine wp_seq_k ?_; intro K1 hK1
 refine reg hF hS (sq rfl (q_assign rfl) <|
   sq_end) ?_
 clear hF hS; intro a w hF hS
 refine hK1 _ _ ?_
 clear hK1
 refine wp_seq_k ?_; intro K2 hK2
 refine wp_seq_k ?_; intro K3 hK3
 refine reg hF hS (sq rfl (q_move rfl) <|
   sq rfl (q_eqnil_row ty67 0 rfl rfl rfl (by omega)) <|
   sq_end) ?_
 clear hF hS; intro a w hF hS
 refine hK3 _ _ ?_
 clear hK3
 refine wp_if hF rfl (fun h => absurd h (by simp)) (fun _ => ?_)
 refine wp_skip ?_
 refine hK2 _ _ ?_
 clear hK2
 refine wp_seq_k ?_; intro K4 hK4
 refine regl ?_
 refine wpl_ef hF hS rfl (ef_bslice0 ty67 ty74) ?_
 clear hF hS; rintro v1 _ _ a w ⟨rfl, rfl⟩ hF hS
 replace hS : St _ (_) (_ :: _ :: _) _ := hS
 refine wpl_sq hF hS (sq rfl (q_move rfl) <|
   sq_end) ?_
 clear hF hS; intro a w hF hS
 refine wpl_ef hF hS rfl (ef_append ty67 ty74 0 rfl rfl rfl (src_row ty67 (k := 1) rfl oQ) bQ rfl (by decide)) ?_
 clear hF hS; rintro v3 _ _ a w ⟨rfl, rfl⟩ hF hS
 replace hS : St _ (_) (_ :: _ :: _) _ := hS
 refine wpl_sq hF hS (sq rfl (q_assign rfl) <|
   sq_end) ?_
 clear hF hS; intro a w hF hS
 refine wpList_nil ?_
 rw [Nat.zero_add, List.nil_append] at hS
 refine hK4 _ _ ?_
 clear hK4
 refine wp_ret ?_
 exact fn_retx (rs := [.tmp 2]) rfl hF hS (vs := [_]) ⟨rfl, trivial⟩ [] [_, _] sQ sQ ⟨rfl, rfl⟩

theorem mcloneP_ct (b : Nat) (es : List MapEntry) (c : Nat) (w0 : World) (zsr : List PH) : Cx Try.prog 53 [.map (some b)] w0 zsr [.mp b es c] (fun v zs1 hs1 => ∃ b2, v = .map (some b2) ∧ zs1 = [] ∧ hs1 = [.mp b2 es c, .mp b es c]) := mclone_cx lcP b es c w0 zsr

theorem mcloneW_ct (b : Nat) (es : List MapEntry) (c : Nat) (w0 : World) (zsr : List PH) : Cx Try.prog 54 [.map (some b)] w0 zsr [.mp b es c] (fun v zs1 hs1 => ∃ b2, v = .map (some b2) ∧ zs1 = [] ∧ hs1 = [.mp b2 es c, .mp b es c]) := mclone_cx lcW b es c w0 zsr

set_option maxRecDepth 4000 in
set_option maxHeartbeats 2000000 in
theorem dclone_ct (h : Dk.Hd) (S : Dk.Dsk) (w0 : World) (zsr : List PH) {r1 r2 r3 r4 : Res} (hD : DD h S r1 r2 r3 r4) : Cx Try.prog 28 [.pointer (some ⟨h.b, 0, none⟩)] w0 zsr [r1, r2, r3, r4] (DDC h S) := by
 refine fn_enterx Try.func28 rfl Try.ntmps28 (Nat.le_of_ble_eq_true rfl) fun hsr a w hF hS => ?_
 replace hS : St _ (_) (_ :: _ :: _ :: _ :: _) _ := hS
 obtain ⟨l, e1, c1, m1, e2, c2, m2, hO, hl, hlr, hM1, hM2, hP, hW, rfl, rfl, rfl, rfl⟩ := hD
 have hlo := hO.lo
 have hhi := hO.hi
 have hlf := hO.lf
 have hlg := hO.lf2
 have hbl := Dk.bl_len S
 have hbs := Dk.bl_64 hO
 replace hS : St _ (_) (_ :: _ :: _ :: _ :: _) _ := hS
 refine wp_seq_k ?_; intro K1 hK1
 refine reg hF hS (sq rfl (q_assign rfl) <|
   sq_end) ?_
 clear hF hS; intro a w hF hS
 refine hK1 _ _ ?_
 clear hK1
 refine wp_seq_k ?_; intro K2 hK2
 revert hS; revert hF; apply regJ (J := J4 (α0 := Value) (α1 := Nat) (α2 := Nat) (α3 := Nat) 28 _ _ _ _ _) #[false, false, false, false, false, false, false, false, false, false, false, false, false, false, false, false, false, false, false, false, false, false, false, false, false, false] 26 mixed rfl rfl
 ·intro w hF hS
  refine goW_take 0 _ rfl kQ rfl hF (hS.keep sQ (sQ.n.n.n.n)) (q_move rfl) ?_
  clear hF; intro a hF
  refine goW_take 1 _ rfl kQ rfl hF (hS.keep sQ (sQ.n.n.n.n)) (q_nilCheck rfl) ?_
  clear hF; intro a hF
  refine goW_take 2 _ rfl kQ rfl hF (hS.keep sQ (sQ.n.n.n.n)) (q_fieldAddr ty71 rfl rfl (s' := 0) kQ) ?_
  clear hF; intro a hF
  refine goW_take 3 _ rfl kQ rfl hF (hS.keep sQ (sQ.n.n.n.k)) (q_ld_blk1 ty67 0 rfl rfl rfl rfl) ?_
  clear hF; intro a hF
  refine goW_take 5 _ rfl kQ rfl hF (hS.keep sQ (sQ.n.n.n.n)) (q_move rfl) ?_
  clear hF; intro a hF
  refine goW_take 6 _ rfl kQ rfl hF (hS.keep sQ (sQ.n.n.n.n)) (q_nilCheck rfl) ?_
  clear hF; intro a hF
  refine goW_take 7 _ rfl kQ rfl hF (hS.keep sQ (sQ.n.n.n.n)) (q_fieldAddr ty71 rfl rfl (s' := 0) kQ) ?_
  clear hF; intro a hF
  refine goW_take 8 _ rfl kQ rfl hF (hS.keep sQ (sQ.n.n.n.k)) (q_ld_blk1 ty68 0 rfl rfl rfl rfl) ?_
  clear hF; intro a hF
  refine goW_take 10 _ rfl kQ rfl hF (hS.keep sQ (sQ.n.n.n.n)) (q_move rfl) ?_
  clear hF; intro a hF
  refine goW_take 11 _ rfl kQ rfl hF (hS.keep sQ (sQ.n.n.n.n)) (q_nilCheck rfl) ?_
  clear hF; intro a hF
  refine goW_take 12 _ rfl kQ rfl hF (hS.keep sQ (sQ.n.n.n.n)) (q_fieldAddr ty71 rfl rfl (s' := 0) kQ) ?_
  clear hF; intro a hF
  refine goW_take 13 _ rfl kQ rfl hF (hS.keep sQ (sQ.n.n.n.k)) (q_ld_blk1 ty69 0 rfl rfl rfl rfl) ?_
  clear hF; intro a hF
  refine goW_take 15 _ rfl kQ rfl hF (hS.keep sQ (sQ.n.n.n.n)) (q_move rfl) ?_
  clear hF; intro a hF
  refine goW_take 16 _ rfl kQ rfl hF (hS.keep sQ (sQ.n.n.n.n)) (q_nilCheck rfl) ?_
  clear hF; intro a hF
  refine goW_take 17 _ rfl kQ rfl hF (hS.keep sQ (sQ.n.n.n.n)) (q_fieldAddr ty71 rfl rfl (s' := 0) kQ) ?_
  clear hF; intro a hF
  refine goW_take 18 _ rfl kQ rfl hF (hS.keep sQ (sQ.n.n.n.k)) (q_ld_blk1 ty4 0 rfl rfl rfl rfl) ?_
  clear hF; intro a hF
  refine goW_take 19 _ rfl kQ rfl hF (hS.keep sQ (sQ.n.n.n.n)) (q_move rfl) ?_
  clear hF; intro a hF
  refine goW_take 20 _ rfl kQ rfl hF (hS.keep sQ (sQ.n.n.n.n)) (q_nilCheck rfl) ?_
  clear hF; intro a hF
  refine goW_take 21 _ rfl kQ rfl hF (hS.keep sQ (sQ.n.n.n.n)) (q_fieldAddr ty71 rfl rfl (s' := 0) kQ) ?_
  clear hF; intro a hF
  refine goW_take 22 _ rfl kQ rfl hF (hS.keep sQ (sQ.n.n.n.k)) (q_ld_blk1 ty3 0 rfl rfl rfl rfl) ?_
  clear hF; intro a hF
  refine goW_fork [4] kQ rfl ⟨?_, trivial⟩
  replace hS := hS.perm (.swap _ _ _)
  replace hS : St _ (_) (_ :: _ :: _ :: _ :: _) _ := hS
  refine stepW_ef _ rfl rfl hF hS rfl (ef_callx fn52 rfl (List.Perm.refl _) (by exact (sclone_ct _ S.s.length (Dk.bl S) (by omega) _ _ ))) ?_
  clear hF hS; rintro v_1_4 _ _ a w ⟨_, _, rfl, rfl, ⟨rfl, rfl⟩⟩ hF hS
  replace hS : St _ (_) (_ :: _ :: _ :: _ :: _ :: _) _ := hS
  refine ⟨⟨.inr (hS.keep sQ (sQ.n.n.k.n.n)), .inr (hS.keep sQ (sQ.n.n.n.n.n)), .inr (hS.keep sQ (sQ.n.n.n.n.n)), .inr (hS.keep sQ (sQ.n.n.n.n.n)), .inr (hS.keep sQ (sQ.n.n.k.n.n)), .inr (hS.keep sQ (sQ.n.n.n.n.n)), .inr (hS.keep sQ (sQ.n.n.n.n.n)), .inr (hS.keep sQ (sQ.n.n.n.n.n)), .inr (hS.keep sQ (sQ.n.n.k.n.n)), .inr (hS.keep sQ (sQ.n.n.n.n.n)), .inr (hS.keep sQ (sQ.n.n.n.n.n)), .inr (hS.keep sQ (sQ.n.n.n.n.n)), .inr (hS.keep sQ (sQ.n.n.k.n.n)), .inr (hS.keep sQ (sQ.n.n.n.n.n)), .inr (hS.keep sQ (sQ.n.n.n.n.n)), .inr (hS.keep sQ (sQ.n.n.n.n.n)), iQ, iQ, .inr (hS.keep sQ (sQ.n.n.n.n.n)), .inr (hS.keep sQ (sQ.n.n.n.n.n)), trivial⟩, ?_⟩
  refine goW_fork [9] kQ rfl ⟨?_, trivial⟩
  replace hS := hS.perm (.cons _ (.cons _ (.swap _ _ _)))
  replace hS := hS.perm (.cons _ (.swap _ _ _))
  replace hS := hS.perm (.swap _ _ _)
  replace hS : St _ (_) (_ :: _ :: _ :: _ :: _ :: _) _ := hS
  refine stepW_ef _ rfl rfl hF hS rfl (ef_callx fn53 rfl (List.Perm.refl _) (by exact (mcloneP_ct h.p e1 c1 _ _ ))) ?_
  clear hF hS; rintro _ _ _ a w ⟨_, _, rfl, rfl, ⟨mb_1_9, rfl, rfl, rfl⟩⟩ hF hS
  replace hS : St _ (_) (_ :: _ :: _ :: _ :: _ :: _ :: _) _ := hS
  refine ⟨⟨.inr (hS.keep sQ (sQ.n.k.n.n.n.n)), .inr (hS.keep sQ (sQ.n.n.n.n.n.n)), .inr (hS.keep sQ (sQ.n.n.n.n.n.n)), .inr (hS.keep sQ (sQ.n.n.n.n.n.n)), .inr (hS.keep sQ (sQ.n.k.n.n.n.n)), .inr (hS.keep sQ (sQ.n.n.n.n.n.n)), .inr (hS.keep sQ (sQ.n.n.n.n.n.n)), .inr (hS.keep sQ (sQ.n.n.n.n.n.n)), .inr (hS.keep sQ (sQ.n.k.n.n.n.n)), .inr (hS.keep sQ (sQ.n.n.n.n.n.n)), .inr (hS.keep sQ (sQ.n.n.n.n.n.n)), .inr (hS.keep sQ (sQ.n.n.n.n.n.n)), iQ, iQ, .inr (hS.keep sQ (sQ.n.n.n.n.n.n)), .inr (hS.keep sQ (sQ.n.n.n.n.n.n)), iQ, iQ, .inr (hS.keep sQ (sQ.n.n.n.n.n.n)), .inr (hS.keep sQ (sQ.n.n.n.n.n.n)), trivial⟩, ?_⟩
  refine goW_fork [14] kQ rfl ⟨?_, trivial⟩
  replace hS := hS.perm (.cons _ (.cons _ (.cons _ (.cons _ (.swap _ _ _)))))
  replace hS := hS.perm (.cons _ (.cons _ (.cons _ (.swap _ _ _))))
  replace hS := hS.perm (.cons _ (.cons _ (.swap _ _ _)))
  replace hS := hS.perm (.cons _ (.swap _ _ _))
  replace hS := hS.perm (.swap _ _ _)
  replace hS : St _ (_) (_ :: _ :: _ :: _ :: _ :: _ :: _) _ := hS
  refine stepW_ef _ rfl rfl hF hS rfl (ef_callx fn54 rfl (List.Perm.refl _) (by exact (mcloneW_ct h.w e2 c2 _ _ ))) ?_
  clear hF hS; rintro _ _ _ a w ⟨_, _, rfl, rfl, ⟨mb_1_14, rfl, rfl, rfl⟩⟩ hF hS
  replace hS : St _ (_) (_ :: _ :: _ :: _ :: _ :: _ :: _ :: _) _ := hS
  refine ⟨⟨.inr (hS.keep sQ (sQ.n.n.n.n.n.n)), .inr (hS.keep sQ (sQ.n.n.n.n.n.n.n)), .inr (hS.keep sQ (sQ.n.n.n.n.n.n.n)), .inr (hS.keep sQ (sQ.n.n.n.n.n.n.n)), .inr (hS.keep sQ (sQ.n.n.n.n.n.n)), .inr (hS.keep sQ (sQ.n.n.n.n.n.n.n)), .inr (hS.keep sQ (sQ.n.n.n.n.n.n.n)), .inr (hS.keep sQ (sQ.n.n.n.n.n.n.n)), iQ, iQ, .inr (hS.keep sQ (sQ.n.n.n.n.n.n.n)), .inr (hS.keep sQ (sQ.n.n.n.n.n.n.n)), iQ, iQ, .inr (hS.keep sQ (sQ.n.n.n.n.n.n.n)), .inr (hS.keep sQ (sQ.n.n.n.n.n.n.n)), iQ, iQ, .inr (hS.keep sQ (sQ.n.n.n.n.n.n.n)), .inr (hS.keep sQ (sQ.n.n.n.n.n.n.n)), trivial⟩, ?_⟩
  refine goW_take 23 _ rfl kQ rfl hF (hS.keep sQ (sQ.n.n.k.n.n.n.n)) (q_buildS1 ty71 5 kQ rfl rfl (oc_cons (row_one (hS.own _ (List.mem_of_getElem? (i := 4) rfl)).1) (oc_cons rfl (oc_cons rfl (oc_cons rfl (oc_cons rfl oc_nil))))) rfl rfl) ?_
  clear hF; intro a hF
  refine gQ 24 rfl rfl hF hS rfl (ef_boxA rfl) ?_
  clear hF hS; rintro _ _ _ a w ⟨b_1_24, rfl, rfl, rfl⟩ hF hS
  refine ⟨⟨iQ, iQ, .inr (hS.keep sQ (sQ.n.n.n.n.n.n.n.n)), .inr (hS.keep sQ (sQ.n.n.n.n.n.n.n.n)), .inr (hS.keep sQ (sQ.n.n.n.n.n.n.n.n)), iQ, .inr (hS.keep sQ (sQ.n.n.n.n.n.n.n.n)), .inr (hS.keep sQ (sQ.n.n.n.n.n.n.n.n)), .inr (hS.keep sQ (sQ.n.n.n.n.n.n.n.n)), iQ, iQ, .inr (hS.keep sQ (sQ.n.n.n.n.n.n.n.n)), .inr (hS.keep sQ (sQ.n.n.n.n.n.n.n.n)), iQ, iQ, .inr (hS.keep sQ (sQ.n.n.n.n.n.n.n.n)), .inr (hS.keep sQ (sQ.n.n.n.n.n.n.n.n)), iQ, iQ, .inr (hS.keep sQ (sQ.n.n.n.n.n.n.n.n)), .inr (hS.keep sQ (sQ.n.n.n.n.n.n.n.n)), trivial⟩, ?_⟩
  refine goW_take 25 _ rfl kQ rfl hF (hS.keep sQ (sQ.n.n.n.n.n.n.n.n)) (q_assign rfl) ?_
  clear hF; intro a hF
  exact goW_done kQ (j4_mk v_1_4 mb_1_9 mb_1_14 b_1_24 (trivial) (hF.sub (L' := [(2, _)]) ⟨rfl, trivial⟩) hS)
 rintro a w ⟨v_1_4, mb_1_9, mb_1_14, b_1_24, -, hF, hS⟩
 (try dsimp only at hF); (try dsimp only at hS)
 refine hK2 _ _ ?_
 clear hK2
 refine wp_ret ?_
 replace hS := hS.perm (.cons _ (.cons _ (.cons _ (.cons _ (.swap _ _ _)))))
 replace hS := hS.perm (.cons _ (.cons _ (.cons _ (.swap _ _ _))))
 replace hS := hS.perm (.cons _ (.cons _ (.swap _ _ _)))
 replace hS := hS.perm (.cons _ (.swap _ _ _))
 replace hS := hS.perm (.cons _ (.cons _ (.cons _ (.swap _ _ _))))
 replace hS := hS.perm (.cons _ (.cons _ (.swap _ _ _)))
 replace hS := hS.perm (.cons _ (.cons _ (.cons _ (.cons _ (.cons _ (.cons _ (.swap _ _ _)))))))
 replace hS := hS.perm (.cons _ (.cons _ (.cons _ (.cons _ (.cons _ (.swap _ _ _))))))
 replace hS := hS.perm (.cons _ (.cons _ (.cons _ (.cons _ (.swap _ _ _)))))
 replace hS := hS.perm (.cons _ (.cons _ (.cons _ (.cons _ (.cons _ (.cons _ (.swap _ _ _)))))))
 replace hS := hS.perm (.cons _ (.cons _ (.cons _ (.cons _ (.cons _ (.swap _ _ _))))))
 replace hS := hS.perm (.cons _ (.cons _ (.cons _ (.cons _ (.cons _ (.cons _ (.swap _ _ _)))))))
 exact fn_retx (rs := [.tmp 2]) rfl hF hS (vs := [_]) ⟨rfl, trivial⟩ [] [_, _, _, _, _, _, _, _] sQ sQ ⟨rfl, ⟨b_1_24, v_1_4, mb_1_9, mb_1_14⟩, _, _, _, _, _, _, _, _, rfl, rfl, ⟨l, e1, c1, m1, e2, c2, m2, hO, hl, hlr, hM1, hM2, hP, hW, rfl, rfl, rfl, rfl⟩, ⟨l, e1, c1, m1, e2, c2, m2, hO, hl, hlr, hM1, hM2, hP, hW, rfl, rfl, rfl, rfl⟩⟩
end Go.Proofs.Ytbgbfmdnpjpdgaa
