/- A text of a proof over this seat: walks over the program's functions and the plain laws that they need. -/
import Derived.Test.YtbgbfmdnpjpdgaaDd7
import Derived.Test.YtbgbfmdnpjpdgaaFwD
import Derived.Test.YtbgbfmdnpjpdgaaFwB
set_option linter.all false
namespace Go.Proofs.Ytbgbfmdnpjpdgaa
open Go.Fw
theorem fn57 : FnOk Try.prog 57 := ⟨_, Try.func57, rfl, by kernel_rfl⟩

set_option maxRecDepth 4000 in
set_option maxHeartbeats 2000000 in
theorem rrot_ct {bk : Nat} {v : Value} {S : Dk.Dsk} (i b : Int) (hb : -9223372036854775808 ≤ b ∧ b ≤ 9223372036854775807) (w0 : World) (zsr : List PH) (hO : Dk.Ok S) : Cx Try.prog 38 [.pointer (some ⟨bk, 0, none⟩), vi i, vi b] w0 zsr [RRB bk v S, RRW v S] (RRD bk v ((Dk.rot S i b).1) (vi (Dk.rot S i b).2)) := by
 refine fn_enterx Try.func38 rfl Try.ntmps38 (Nat.le_of_ble_eq_true rfl) fun hsr a w hF hS => ?_
 replace hS : St _ (_) (_ :: _ :: _) _ := hS
 have hlo := hO.lo
 have hhi := hO.hi
 have hlf := hO.lf
 have hlg := hO.lf2
 refine wp_seq_k ?_; intro K1 hK1
 refine reg hF hS (sq rfl (q_assign rfl) <|
   sq_end) ?_
 clear hF hS; intro a w hF hS
 refine hK1 _ _ ?_
 clear hK1
 refine wp_seq_k ?_; intro K2 hK2
 refine wp_seq_k ?_; intro K3 hK3
 refine regl ?_
 refine wpl_sq hF hS (sq rfl (q_move rfl) <|
   sq rfl (q_move rfl) <|
   sq_end) ?_
 clear hF hS; intro a w hF hS
 refine wpl_ef hF hS rfl (ef_callx fn55 rfl (List.Perm.refl _) (by exact (ris_ct _ _ _  (by first | assumption | exact Dk.ok_step (by assumption) | exact Dk.rst_ok (by assumption) _ _) (S := S) (v := v)))) ?_
 clear hF hS; rintro _ _ _ a w ⟨_, _, rfl, rfl, ⟨rfl, rfl, rfl⟩⟩ hF hS
 replace hS : St _ (_) (_ :: _ :: _) _ := hS
 refine wpl_sq hF hS (sq rfl (q_not rfl) <|
   sq rfl (q_move rfl) <|
   sq_end) ?_
 clear hF hS; intro a w hF hS
 refine wpl_or 4 12 2 hF hS rfl rfl rfl rfl rfl (fun hg => have hg := hg; sq_go 12 rfl rfl rfl (q_move rfl) <|
   sq_go 12 rfl rfl rfl (q_lti rfl rfl) <|
   sq_end) rfl rfl ?_
 clear hF hS; intro a w hF hS
 refine wpl_sq hF hS (sq rfl (q_move rfl) <|
   sq_end) ?_
 clear hF hS; intro a w hF hS
 refine wpl_or 8 16 2 hF hS rfl rfl rfl rfl rfl (fun hg => have hg := hg; sq_go 16 rfl rfl rfl (q_move rfl) <|
   sq_go 16 rfl rfl rfl (q_gti rfl rfl) <|
   sq_end) rfl rfl ?_
 clear hF hS; intro a w hF hS
 refine wpList_nil ?_
 refine hK3 _ _ ?_
 clear hK3
 refine wp_if hF rfl (fun hc1 => ?_) (fun hc1 => ?_)
 ·(try simp only [Bool.or_eq_true, Bool.and_eq_true, Bool.or_eq_false_iff, Bool.and_eq_false_iff, decide_eq_true_eq, decide_eq_false_iff_not, Bool.not_eq_true', Bool.not_eq_false'] at hc1)
  refine wp_seq_k ?_; intro K4 hK4
  refine reg hF hS (sq rfl (q_assign rfl) <|
    sq_end) ?_
  clear hF hS; intro a w hF hS
  refine hK4 _ _ ?_
  clear hK4
  refine wp_ret ?_
  exact fn_retx (rs := [.tmp 6]) rfl hF hS (vs := [_]) ⟨rfl, trivial⟩ [] [_, _] sQ sQ (Dk.rdr_of (S := S) ⟨rfl, rfl, rfl⟩ (by rw [Dk.rot_no (Dk.rno hc1)]) (by rw [Dk.rot_no (Dk.rno hc1)]))
 ·(try simp only [Bool.or_eq_true, Bool.and_eq_true, Bool.or_eq_false_iff, Bool.and_eq_false_iff, decide_eq_true_eq, decide_eq_false_iff_not, Bool.not_eq_true', Bool.not_eq_false'] at hc1)
  have hir : 0 ≤ i ∧ i < S.s.length := by have := hc1.1.1; simpa using this
  have hbr : 0 ≤ b ∧ b < 512 := by omega
  have htx : (S.s.getD i.toNat Dk.s0).tx.length = 64 := (hO.at hir).1
  refine wp_skip ?_
  refine hK2 _ _ ?_
  clear hK2
  refine wp_seq_k ?_; intro K5 hK5
  refine regl ?_
  refine wpl_sq hF hS (sq rfl (q_move rfl) <|
    sq rfl (q_nilCheck rfl) <|
    sq rfl (q_fieldAddr ty57 rfl rfl (s' := 0) kQ) <|
    sq rfl (q_ld_blk1 ty55 0 rfl rfl rfl rfl) <|
    sq rfl (q_move rfl) <|
    sq rfl (q_idx_row ty55 ty54 1 rfl rfl rfl (by omega)) <|
    sq rfl (q_fld_row ty54 1 rfl rfl (by omega) rfl (s' := 0) kQ) <|
    sq rfl (q_ld_rowK1 Dk.secC_len Dk.s0 ty9 1 rfl rfl rfl (by omega) (by decide) rfl) <|
    sq_end) ?_
  clear hF hS; intro a w hF hS
  refine wpl_ef hF hS rfl (ef_s2bW ty9 ty72 ty5 rfl (by omega)) ?_
  clear hF hS; rintro _ _ _ a w ⟨bb, cp, rfl, rfl, rfl, hcp, hdz⟩ hF hS
  have hsl := bob_sl (e := 5) (b := bb) hcp (by omega)
  replace hS : St _ (_ :: _) (_ :: _ :: _) _ := hS
  refine wpl_sq hF hS (sq rfl (q_assign rfl) <|
    sq_end) ?_
  clear hF hS; intro a w hF hS
  refine wpList_nil ?_
  refine hK5 _ _ ?_
  clear hK5
  refine wp_seq_k ?_; intro K6 hK6
  refine regt 13 mixed kQ hF hS (sq rfl (q_move rfl) <|
    sq rfl (q_move rfl) <|
    sq rfl (q_quoi rfl rfl (by omega)) <|
    sq rfl (q_move rfl) <|
    sq rfl (q_move rfl) <|
    sq rfl (q_quoi rfl rfl (by omega)) <|
    sq rfl (q_idx_sl ty72 ty5 hsl rfl rfl (by omega)) <|
    sq rfl (q_ld_B ty5 hsl (.inr (by simp)) rfl rfl (by omega)) <|
    sq rfl (q_move rfl) <|
    sq rfl (q_remi rfl rfl (by omega)) <|
    sq rfl (q_shlb (p := 1) rfl rfl (by omega)) <|
    sq rfl (q_xorb rfl rfl) <|
    sq rfl (q_idx_sl ty72 ty5 hsl rfl rfl (by omega)) <|
    sq_end) ?_
  clear hF hS; intro a w hF hS
  refine wpl_ef hF hS rfl (ef_st_bob (ub := (S.s.getD i.toNat Dk.s0).tx.getD (b / 8).toNat 0 ^^^ Dk.bitv b) ty5 rfl rfl (by omega) hdz) ?_
  clear hF hS; rintro _ _ _ a w ⟨rfl, rfl, rfl⟩ hF hS
  have hsl2 : Sl Go.Fw.encB (ph1 bb (bob 5 (List.set (S.s.getD i.toNat Dk.s0).tx (b / 8).toNat ((S.s.getD i.toNat Dk.s0).tx.getD (b / 8).toNat 0 ^^^ Dk.bitv b)) cp)) (.slice (some ⟨bb, 0, none⟩) (S.s.getD i.toNat Dk.s0).tx.length cp) (List.set (S.s.getD i.toNat Dk.s0).tx (b / 8).toNat ((S.s.getD i.toNat Dk.s0).tx.getD (b / 8).toNat 0 ^^^ Dk.bitv b)) := by
   have h9 := bob_sl (e := 5) (b := bb) (cap := cp) (l := (List.set (S.s.getD i.toNat Dk.s0).tx (b / 8).toNat ((S.s.getD i.toNat Dk.s0).tx.getD (b / 8).toNat 0 ^^^ Dk.bitv b))) (by rw [List.length_set]; exact hcp) (by rw [List.length_set]; omega)
   rw [List.length_set] at h9
   exact h9
  replace hS : St _ (_ :: _) (_ :: _ :: _) _ := hS
  refine wpList_nil ?_
  refine hK6 _ _ ?_
  clear hK6
  refine wp_seq_k ?_; intro K7 hK7
  refine regt 9 mixed kQ hF hS (sq rfl (q_move rfl) <|
    sq rfl (q_nilCheck rfl) <|
    sq rfl (q_fieldAddr ty57 rfl rfl (s' := 0) kQ) <|
    sq rfl (q_ld_blk1 ty55 0 rfl rfl rfl rfl) <|
    sq rfl (q_move rfl) <|
    sq rfl (q_move rfl) <|
    sq rfl (q_b2s_sl ty72 ty9 ty5 hsl2 (.inr (by simp [Dk.bitv])) rfl) <|
    sq rfl (q_idx_row ty55 ty54 1 rfl rfl rfl (by omega)) <|
    sq rfl (q_fld_row ty54 1 rfl rfl (by omega) rfl (s' := 0) kQ) <|
    sq_end) ?_
  clear hF hS; intro a w hF hS
  refine wpl_ef hF hS rfl (ef_st_rowK (x' := ⟨Dk.flip (S.at i).tx b, (S.at i).nx, (S.at i).dt, (S.at i).wn⟩) Dk.secC_len ty9 1 rfl rfl rfl (Dk.at_some (S := S) hir) (by decide) rfl rfl) ?_
  clear hF hS; rintro _ _ _ a w ⟨rfl, rfl, rfl⟩ hF hS
  replace hS : St _ (_ :: _) (_ :: _ :: _) _ := hS
  refine wpList_nil ?_
  refine hK7 _ _ ?_
  clear hK7
  refine wp_seq_k ?_; intro K8 hK8
  refine reg hF hS (sq rfl (q_assign rfl) <|
    sq_end) ?_
  clear hF hS; intro a w hF hS
  refine hK8 _ _ ?_
  clear hK8
  refine wp_ret ?_
  exact fn_retx (rs := [.tmp 6]) rfl hF hS (vs := [_]) ⟨rfl, trivial⟩ [] [_, _] (sQ.n) sQ (Dk.rdr_of (S := S.put i ⟨Dk.flip (S.at i).tx b, (S.at i).nx, (S.at i).dt, (S.at i).wn⟩) ⟨rfl, rfl, by exact congrArg (fun r => [_, r]) Dk.rw_set1⟩ (by rw [Dk.rot_ok hir hbr]) (by rw [Dk.rot_ok hir hbr]))

set_option maxRecDepth 4000 in
set_option maxHeartbeats 2000000 in
theorem rwear_ct {b : Nat} {v : Value} {S : Dk.Dsk} (i : Int) (w0 : World) (zsr : List PH) (hO : Dk.Ok S) : Cx Try.prog 39 [.pointer (some ⟨b, 0, none⟩), vi i] w0 zsr [RRB b v S, RRW v S] (RRD b v ((Dk.wear S i).1) (vi (Dk.wear S i).2)) := by
 refine fn_enterx Try.func39 rfl Try.ntmps39 (Nat.le_of_ble_eq_true rfl) fun hsr a w hF hS => ?_
 replace hS : St _ (_) (_ :: _ :: _) _ := hS
 have hlo := hO.lo
 have hhi := hO.hi
 have hlf := hO.lf
 have hlg := hO.lf2
 refine wp_seq_k ?_; intro K1 hK1
 refine reg hF hS (sq rfl (q_assign rfl) <|
   sq_end) ?_
 clear hF hS; intro a w hF hS
 refine hK1 _ _ ?_
 clear hK1
 refine wp_seq_k ?_; intro K2 hK2
 refine wp_seq_k ?_; intro K3 hK3
 refine regl ?_
 refine wpl_sq hF hS (sq rfl (q_move rfl) <|
   sq rfl (q_move rfl) <|
   sq_end) ?_
 clear hF hS; intro a w hF hS
 refine wpl_ef hF hS rfl (ef_callx fn55 rfl (List.Perm.refl _) (by exact (ris_ct _ _ _  (by first | assumption | exact Dk.ok_step (by assumption) | exact Dk.rst_ok (by assumption) _ _) (S := S) (v := v)))) ?_
 clear hF hS; rintro _ _ _ a w ⟨_, _, rfl, rfl, ⟨rfl, rfl, rfl⟩⟩ hF hS
 replace hS : St _ (_) (_ :: _ :: _) _ := hS
 refine wpl_sq hF hS (sq rfl (q_not rfl) <|
   sq_end) ?_
 clear hF hS; intro a w hF hS
 refine wpList_nil ?_
 refine hK3 _ _ ?_
 clear hK3
 refine wp_if hF rfl (fun hc1 => ?_) (fun hc1 => ?_)
 ·refine wp_seq_k ?_; intro K4 hK4
  refine reg hF hS (sq rfl (q_assign rfl) <|
    sq_end) ?_
  clear hF hS; intro a w hF hS
  refine hK4 _ _ ?_
  clear hK4
  refine wp_ret ?_
  exact fn_retx (rs := [.tmp 4]) rfl hF hS (vs := [_]) ⟨rfl, trivial⟩ [] [_, _] sQ sQ (Dk.rdr_of (S := S) ⟨rfl, rfl, rfl⟩ (by rw [Dk.wear_no (by have := hc1; simp at this; omega)]) (by rw [Dk.wear_no (by have := hc1; simp at this; omega)]))
 ·have hir : 0 ≤ i ∧ i < S.s.length := by simpa using hc1
  refine wp_skip ?_
  refine hK2 _ _ ?_
  clear hK2
  refine wp_seq_k ?_; intro K5 hK5
  refine regl ?_
  refine wpl_sq hF hS (sq rfl (q_move rfl) <|
    sq rfl (q_nilCheck rfl) <|
    sq rfl (q_fieldAddr ty57 rfl rfl (s' := 0) kQ) <|
    sq rfl (q_ld_blk1 ty55 0 rfl rfl rfl rfl) <|
    sq rfl (q_move rfl) <|
    sq rfl (q_idx_row ty55 ty54 1 rfl rfl rfl (by omega)) <|
    sq rfl (q_fld_row ty54 1 rfl rfl (by omega) rfl (s' := 0) kQ) <|
    sq_end) ?_
  clear hF hS; intro a w hF hS
  refine wpl_ef hF hS rfl (ef_st_rowK (x' := ⟨(S.at i).tx, (S.at i).nx, (S.at i).dt, true⟩) Dk.secC_len ty4 1 rfl rfl rfl (Dk.at_some (S := S) hir) (by decide) rfl rfl) ?_
  clear hF hS; rintro _ _ _ a w ⟨rfl, rfl, rfl⟩ hF hS
  replace hS : St _ (_) (_ :: _ :: _) _ := hS
  refine wpList_nil ?_
  refine hK5 _ _ ?_
  clear hK5
  refine wp_seq_k ?_; intro K6 hK6
  refine reg hF hS (sq rfl (q_assign rfl) <|
    sq_end) ?_
  clear hF hS; intro a w hF hS
  refine hK6 _ _ ?_
  clear hK6
  refine wp_ret ?_
  exact fn_retx (rs := [.tmp 4]) rfl hF hS (vs := [_]) ⟨rfl, trivial⟩ [] [_, _] sQ sQ (Dk.rdr_of (S := S.put i ⟨(S.at i).tx, (S.at i).nx, (S.at i).dt, true⟩) ⟨rfl, rfl, by exact congrArg (fun r => [_, r]) Dk.rw_set1⟩ (by rw [Dk.wear_ok hir]) (by rw [Dk.wear_ok hir]))

set_option maxRecDepth 4000 in
set_option maxHeartbeats 2000000 in
theorem rflush_ct {b : Nat} {v : Value} {S : Dk.Dsk} (w0 : World) (zsr : List PH) (hO : Dk.Ok S) : Cx Try.prog 35 [.pointer (some ⟨b, 0, none⟩)] w0 zsr [RRB b v S, RRW v S] (RRD b v ((Dk.flush S).1) (vi (Dk.flush S).2)) := by
 refine fn_enterx Try.func35 rfl Try.ntmps35 (Nat.le_of_ble_eq_true rfl) fun hsr a w hF hS => ?_
 replace hS : St _ (_) (_ :: _ :: _) _ := hS
 have hlo := hO.lo
 have hhi := hO.hi
 have hlf := hO.lf
 have hlg := hO.lf2
 refine wp_seq_k ?_; intro K1 hK1
 refine reg hF hS (sq rfl (q_assign rfl) <|
   sq_end) ?_
 clear hF hS; intro a w hF hS
 refine hK1 _ _ ?_
 clear hK1
 refine wp_seq_k ?_; intro K2 hK2
 refine wp_seq_k ?_; intro K3 hK3
 refine reg hF hS (sq rfl (q_move rfl) <|
   sq rfl (q_nilCheck rfl) <|
   sq rfl (q_fieldAddr ty57 rfl rfl (s' := 0) kQ) <|
   sq rfl (q_ld_blk1 ty4 0 rfl rfl rfl rfl) <|
   sq_end) ?_
 clear hF hS; intro a w hF hS
 refine hK3 _ _ ?_
 clear hK3
 refine wp_if hF rfl (fun hc1 => ?_) (fun hc1 => ?_)
 ·refine wp_seq_k ?_; intro K4 hK4
  refine reg hF hS (sq rfl (q_assign rfl) <|
    sq_end) ?_
  clear hF hS; intro a w hF hS
  refine hK4 _ _ ?_
  clear hK4
  refine wp_ret ?_
  exact fn_retx (rs := [.tmp 2]) rfl hF hS (vs := [_]) ⟨rfl, trivial⟩ [] [_, _] sQ sQ (Dk.rdr_of (S := S) ⟨rfl, rfl, rfl⟩ (by rw [Dk.flush_1 hc1]) (by rw [Dk.flush_1 hc1]))
 ·refine wp_skip ?_
  refine hK2 _ _ ?_
  clear hK2
  refine wp_seq_k ?_; intro K5 hK5
  refine regl ?_
  refine wpl_sq hF hS (sq rfl (q_move rfl) <|
    sq_end) ?_
  clear hF hS; intro a w hF hS
  refine wpl_ef hF hS rfl (ef_callx fn56 rfl (List.Perm.refl _) (by exact (rstep_ct _ _  (by first | assumption | exact Dk.ok_step (by assumption) | exact Dk.rst_ok (by assumption) _ _) (S := S) (v := v)))) ?_
  clear hF hS; rintro _ _ _ a w ⟨_, _, rfl, rfl, ⟨rfl, rfl, rfl⟩⟩ hF hS
  replace hS : St _ (_) (_ :: _ :: _) _ := hS
  refine wpl_sq hF hS (sq rfl (q_assign rfl) <|
    sq_end) ?_
  clear hF hS; intro a w hF hS
  refine wpList_nil ?_
  refine hK5 _ _ ?_
  clear hK5
  refine wp_seq_k ?_; intro K6 hK6
  refine wp_seq_k ?_; intro K7 hK7
  refine reg hF hS (sq rfl (q_move rfl) <|
    sq rfl (q_nei rfl rfl) <|
    sq_end) ?_
  clear hF hS; intro a w hF hS
  refine hK7 _ _ ?_
  clear hK7
  refine wp_ifn hF rfl (fun hc2 => ?_) (fun hc2 => ?_)
  ·refine wp_seq_k ?_; intro K8 hK8
   refine reg hF hS (sq rfl (q_move rfl) <|
     sq rfl (q_assign rfl) <|
     sq_end) ?_
   clear hF hS; intro a w hF hS
   refine hK8 _ _ ?_
   clear hK8
   refine wp_ret ?_
   exact fn_retx (rs := [.tmp 2]) rfl hF hS (vs := [_]) ⟨rfl, trivial⟩ [] [_, _] sQ sQ (Dk.rdr_of (S := (Dk.step S).1) ⟨rfl, rfl, rfl⟩ (by rw [Dk.flush_2 hc1 hc2]) (by rw [Dk.flush_2 hc1 hc2]))
  ·have hs0 : (Dk.step S).2 = 0 := by omega
   have hO1 := Dk.ok_step hO
   refine wp_skip ?_
   refine hK6 _ _ ?_
   clear hK6
   refine wp_seq_k ?_; intro K9 hK9
   refine wp_seq_k ?_; intro K10 hK10
   refine reg hF hS (sq rfl (q_assign rfl) <|
     sq_end) ?_
   clear hF hS; intro a w hF hS
   refine hK10 _ _ ?_
   clear hK10
   refine wp_block ?_
   obtain ⟨hs0, hhs0, hS⟩ : ∃ h, h = _ ∧ St _ _ h _ := ⟨_, rfl, hS⟩
   refine wp_loopx (γ := Nat) (0) (fun (i : Nat) => [(4, vi (i : Int))]) [(0, _)] (fun (i : Nat) => ((hs0.set 0 (RRB b v (Dk.rst (Dk.step S).1 [] i))).set 1 (RRW v (Dk.rst (Dk.step S).1 [] i)))) (fun (i : Nat) => i ≤ (Dk.step S).1.s.length) (fun (i : Nat) => (Dk.step S).1.s.length - i) (hF.sub ⟨rfl, rfl, trivial⟩) (by subst hhs0; (try dsimp only); rw [Dk.rst_0]; exact hS) (by exact Nat.zero_le _) ?_
   clear hF hS; rintro i a w hfact hF hS
   subst hhs0; (try dsimp only at hfact); (try dsimp only at hF); (try dsimp only at hS)
   have hi0 := hfact
   have hrl := Dk.rst_len (Dk.step S).1 [] i
   have hO9 := Dk.rst_ok hO1 [] i
   have hhs := hO1.hi
   replace hS : St _ (_) (_ :: _ :: _) _ := hS
   refine wp_seq_k ?_; intro K11 hK11
   refine wp_seq_k ?_; intro K12 hK12
   refine reg hF hS (sq rfl (q_move rfl) <|
     sq rfl (q_move rfl) <|
     sq rfl (q_nilCheck rfl) <|
     sq rfl (q_fieldAddr ty57 rfl rfl (s' := 0) kQ) <|
     sq rfl (q_ld_blk1 ty55 0 rfl rfl rfl rfl) <|
     sq rfl (q_len_row ty55 1 rfl rfl) <|
     sq rfl (q_lti rfl rfl) <|
     sq_end) ?_
   clear hF hS; intro a w hF hS
   refine hK12 _ _ ?_
   clear hK12
   refine wp_ifd hF rfl (fun hc3 => ?_) (fun hc3 => ?_)
   ·refine wp_skip ?_
    refine hK11 _ _ ?_
    clear hK11
    refine wp_seq_k ?_; intro K13 hK13
    refine wp_block ?_
    refine wp_seq_k ?_; intro K14 hK14
    refine reg hF hS (sq rfl (q_move rfl) <|
      sq rfl (q_nilCheck rfl) <|
      sq rfl (q_fieldAddr ty57 rfl rfl (s' := 0) kQ) <|
      sq rfl (q_ld_blk1 ty55 0 rfl rfl rfl rfl) <|
      sq rfl (q_move rfl) <|
      sq rfl (q_idx_row ty55 ty54 1 rfl rfl rfl (by omega)) <|
      sq rfl (q_fld_row ty54 1 rfl rfl (by omega) rfl (s' := 0) kQ) <|
      sq rfl (q_ld_rowK1 Dk.secC_len Dk.s0 ty4 1 rfl rfl rfl (by omega) (by decide) rfl) <|
      sq_end) ?_
    clear hF hS; intro a w hF hS
    refine hK14 _ _ ?_
    clear hK14
    refine wp_if hF rfl (fun hc4 => ?_) (fun hc4 => ?_)
    ·have hd8 : ((Dk.rst (Dk.step S).1 [] i).at (i : Int)).dt = true := hc4
     have hd9 := hd8
     rw [Dk.rst_at _ _ (by omega)] at hd9
     have hry : (Dk.rst (Dk.step S).1 [] i).put (i : Int) (Dk.settle1 ((Dk.rst (Dk.step S).1 [] i).at (i : Int)) (64)) = Dk.rst (Dk.step S).1 [] (i + 1) := Dk.rst_yes (Dk.step S).1 [] (by omega) hd9
     refine regl ?_
     refine wpl_sq hF hS (sq rfl (q_move rfl) <|
       sq rfl (q_move rfl) <|
       sq_end) ?_
     clear hF hS; intro a w hF hS
     refine wpl_ef hF hS rfl (ef_callx fn57 rfl (List.Perm.refl _) (by exact (rsettle_ct _ _ (by first | assumption | omega) (by assumption) _ _  (by first | assumption | exact Dk.ok_step (by assumption) | exact Dk.rst_ok (by assumption) _ _) (S := (Dk.rst (Dk.step S).1 [] i)) (v := v)))) ?_
     clear hF hS; rintro _ _ _ a w ⟨_, _, rfl, rfl, ⟨rfl, rfl, rfl⟩⟩ hF hS
     replace hS : St _ (_) (_ :: _ :: _) _ := hS
     refine wpList_nil ?_
     refine hK13 _ _ ?_
     clear hK13
     refine reg hF hS (sq rfl (q_move rfl) <|
       sq rfl (q_addi rfl rfl (by omega)) <|
       sq rfl (q_assign rfl) <|
       sq_end) ?_
     clear hF hS; intro a w hF hS
     refine ⟨(i + 1), ?_, ?_, hF.sub ⟨rfl, rfl, trivial⟩, ?_⟩
     ·(try dsimp only); omega
     ·omega
     ·rw [hry] at hS
      exact hS
    ·have hd8 : ((Dk.rst (Dk.step S).1 [] i).at (i : Int)).dt = false := hc4
     have hd9 := hd8
     rw [Dk.rst_at _ _ (by omega)] at hd9
     have hrn := Dk.rst_no (Dk.step S).1 [] (by omega) hd9
     refine wp_skip ?_
     refine hK13 _ _ ?_
     clear hK13
     refine reg hF hS (sq rfl (q_move rfl) <|
       sq rfl (q_addi rfl rfl (by omega)) <|
       sq rfl (q_assign rfl) <|
       sq_end) ?_
     clear hF hS; intro a w hF hS
     refine ⟨(i + 1), ?_, ?_, hF.sub ⟨rfl, rfl, trivial⟩, ?_⟩
     ·(try dsimp only); omega
     ·omega
     ·rw [← hrn]; exact hS
   ·refine wp_exit ?_
    refine hK9 _ _ ?_
    clear hK9
    refine wp_seq_k ?_; intro K15 hK15
    refine reg hF hS (sq rfl (q_assign rfl) <|
      sq_end) ?_
    clear hF hS; intro a w hF hS
    refine hK15 _ _ ?_
    clear hK15
    refine wp_ret ?_
    exact fn_retx (rs := [.tmp 2]) rfl hF hS (vs := [_]) ⟨rfl, trivial⟩ [] [_, _] sQ sQ (Dk.rdr_of (S := Dk.rst (Dk.step S).1 [] i) ⟨rfl, rfl, rfl⟩ (by rw [Dk.flush_r hc1 hs0 (i := i) (by omega)]) (by rw [Dk.flush_r hc1 hs0 (i := i) (by omega)]))

set_option maxRecDepth 4000 in
set_option maxHeartbeats 2000000 in
theorem rmount_ct {b : Nat} {v : Value} {S : Dk.Dsk} (pv : Value) (ps : List Int) (w0 : World) (zsr : List PH) (z : PH) (hps : Sl Go.Fw.encI z pv ps) (hz : ZIn w0 zsr z) (hO : Dk.Ok S) : Cx Try.prog 37 [.pointer (some ⟨b, 0, none⟩), pv] w0 zsr [RRB b v S, RRW v S] (RRD b v (Dk.mount S ps) (.tuple ([] : List Value).toArray)) := by
 refine fn_enterx Try.func37 rfl Try.ntmps37 (Nat.le_of_ble_eq_true rfl) fun hsr a w hF hS => ?_
 replace hS : St _ (_) (_ :: _ :: _) _ := hS
 have hlo := hO.lo
 have hhi := hO.hi
 have hlf := hO.lf
 have hlg := hO.lf2
 have hpr := sl_rng hps
 have hpl := hps.1
 have hO1 := hO
 refine wp_seq_k ?_; intro K1 hK1
 refine reg hF hS (sq rfl (q_assign rfl) <|
   sq_end) ?_
 clear hF hS; intro a w hF hS
 refine hK1 _ _ ?_
 clear hK1
 refine wp_seq_k ?_; intro K2 hK2
 refine wp_seq_k ?_; intro K3 hK3
 refine reg hF hS (sq rfl (q_assign rfl) <|
   sq_end) ?_
 clear hF hS; intro a w hF hS
 refine hK3 _ _ ?_
 clear hK3
 refine wp_block ?_
 obtain ⟨hs0, hhs0, hS⟩ : ∃ h, h = _ ∧ St _ _ h _ := ⟨_, rfl, hS⟩
 refine wp_loopx (γ := Nat) (0) (fun (i : Nat) => [(4, vi (Dk.cnt S i : Int)), (5, vi (i : Int))]) [(0, _), (1, _)] (fun (i : Nat) => ((hs0.set 0 (RRB b v (Dk.rst S ps i))).set 1 (RRW v (Dk.rst S ps i)))) (fun (i : Nat) => i ≤ S.s.length) (fun (i : Nat) => S.s.length - i) (hF.sub ⟨rfl, rfl, rfl, rfl, trivial⟩) (by subst hhs0; (try dsimp only); rw [Dk.rst_0]; exact hS) (by exact Nat.zero_le _) ?_
 clear hF hS; rintro i a w hfact hF hS
 subst hhs0; (try dsimp only at hfact); (try dsimp only at hF); (try dsimp only at hS)
 have hi0 := hfact
 have hrl := Dk.rst_len S ps i
 have hO9 := Dk.rst_ok hO1 ps i
 have hhs := hO1.hi
 replace hS : St _ (_) (_ :: _ :: _) _ := hS
 have hcl := Dk.cnt_le S i
 refine wp_seq_k ?_; intro K4 hK4
 refine wp_seq_k ?_; intro K5 hK5
 refine reg hF hS (sq rfl (q_move rfl) <|
   sq rfl (q_move rfl) <|
   sq rfl (q_nilCheck rfl) <|
   sq rfl (q_fieldAddr ty57 rfl rfl (s' := 0) kQ) <|
   sq rfl (q_ld_blk1 ty55 0 rfl rfl rfl rfl) <|
   sq rfl (q_len_row ty55 1 rfl rfl) <|
   sq rfl (q_lti rfl rfl) <|
   sq_end) ?_
 clear hF hS; intro a w hF hS
 refine hK5 _ _ ?_
 clear hK5
 refine wp_ifd hF rfl (fun hc1 => ?_) (fun hc1 => ?_)
 ·refine wp_skip ?_
  refine hK4 _ _ ?_
  clear hK4
  refine wp_seq_k ?_; intro K6 hK6
  refine wp_block ?_
  refine wp_seq_k ?_; intro K7 hK7
  refine wp_seq_k ?_; intro K8 hK8
  refine reg hF hS (sq rfl (q_move rfl) <|
    sq rfl (q_nilCheck rfl) <|
    sq rfl (q_fieldAddr ty57 rfl rfl (s' := 0) kQ) <|
    sq rfl (q_ld_blk1 ty55 0 rfl rfl rfl rfl) <|
    sq rfl (q_move rfl) <|
    sq rfl (q_idx_row ty55 ty54 1 rfl rfl rfl (by omega)) <|
    sq rfl (q_fld_row ty54 1 rfl rfl (by omega) rfl (s' := 0) kQ) <|
    sq rfl (q_ld_rowK1 Dk.secC_len Dk.s0 ty4 1 rfl rfl rfl (by omega) (by decide) rfl) <|
    sq rfl (q_not rfl) <|
    sq_end) ?_
  clear hF hS; intro a w hF hS
  refine hK8 _ _ ?_
  clear hK8
  refine wp_if hF rfl (fun hc2 => ?_) (fun hc2 => ?_)
  ·have hd8 : ((Dk.rst S ps i).at (i : Int)).dt = false := Dk.notT hc2
   have hd9 := hd8
   rw [Dk.rst_at _ _ (by omega)] at hd9
   have hrn := Dk.rst_no S ps (by omega) hd9
   refine wp_exit ?_
   refine hK6 _ _ ?_
   clear hK6
   refine reg hF hS (sq rfl (q_move rfl) <|
     sq rfl (q_addi rfl rfl (by omega)) <|
     sq rfl (q_assign rfl) <|
     sq_end) ?_
   clear hF hS; intro a w hF hS
   refine ⟨(i + 1), ?_, ?_, hF.sub ⟨(by show some (vi _) = some (vi _); rw [Dk.cnt_1 S (by omega), if_neg (by rw [hd9]; simp)]), rfl, rfl, rfl, trivial⟩, ?_⟩
   ·(try dsimp only); omega
   ·omega
   ·rw [← hrn]; exact hS
  ·have hd8 : ((Dk.rst S ps i).at (i : Int)).dt = true := Dk.notF hc2
   have hd9 := hd8
   rw [Dk.rst_at _ _ (by omega)] at hd9
   have hry : (Dk.rst S ps i).put (i : Int) (Dk.settle1 ((Dk.rst S ps i).at (i : Int)) (Dk.pk ps (Dk.cnt S i))) = Dk.rst S ps (i + 1) := Dk.rst_yes S ps (by omega) hd9
   refine wp_skip ?_
   refine hK7 _ _ ?_
   clear hK7
   refine wp_seq_k ?_; intro K9 hK9
   refine reg hF hS (sq rfl (q_assign rfl) <|
     sq_end) ?_
   clear hF hS; intro a w hF hS
   refine hK9 _ _ ?_
   clear hK9
   obtain ⟨hs0, hhs0, hS⟩ : ∃ h, h = _ ∧ St _ _ h _ := ⟨_, rfl, hS⟩
   refine wp_cutx (γ := Int) (fun (p : Int) => [(6, vi p)]) [(0, _), (1, _), (4, _), (5, _)] (fun (p : Int) => hs0) (fun (p : Int) => p = Dk.pk ps (Dk.cnt S i)) (hF.sub ⟨rfl, rfl, rfl, rfl, trivial⟩) hS ?_ ?_
   ·subst hhs0
    refine wp_seq_k ?_; intro K10 hK10
    refine reg hF hS (sq rfl (q_move rfl) <|
      sq rfl (q_move rfl) <|
      sq rfl (q_len_sl ty31 hps rfl) <|
      sq rfl (q_lti rfl rfl) <|
      sq_end) ?_
    clear hF hS; intro a w hF hS
    refine hK10 _ _ ?_
    clear hK10
    refine wp_ifd hF rfl (fun hc3 => ?_) (fun hc3 => ?_)
    ·refine reg hF hS (sq rfl (q_move rfl) <|
       sq rfl (q_move rfl) <|
       sq rfl (q_idx_sl ty31 ty3 hps rfl rfl (by omega)) <|
       sq rfl (q_ld_I ty3 hps hz rfl rfl (by omega)) <|
       sq rfl (q_assign rfl) <|
       sq_end) ?_
     clear hF hS; intro a w hF hS
     refine ⟨((ps.getD ((Dk.cnt S i : Int)).toNat 0)), ?_, hF.sub ⟨rfl, rfl, rfl, rfl, rfl, trivial⟩, ?_⟩
     ·rw [Int.toNat_natCast]; exact (Dk.pk_1 (by omega)).symm
     ·exact hS
    ·refine wp_skip ?_
     refine ⟨(64), ?_, hF.sub ⟨rfl, rfl, rfl, rfl, rfl, trivial⟩, ?_⟩
     ·exact (Dk.pk_2 (by omega)).symm
     ·exact hS
   clear hF hS; rintro p a w hfact hF hS
   subst hhs0; (try dsimp only at hfact); (try dsimp only at hF); (try dsimp only at hS)
   have hpk := hfact
   replace hS : St _ (_) (_ :: _ :: _) _ := hS
   subst hpk
   refine wp_seq_k ?_; intro K11 hK11
   refine regl ?_
   refine wpl_sq hF hS (sq rfl (q_move rfl) <|
     sq rfl (q_move rfl) <|
     sq rfl (q_move rfl) <|
     sq_end) ?_
   clear hF hS; intro a w hF hS
   refine wpl_ef hF hS rfl (ef_callx fn57 rfl (List.Perm.refl _) (by exact (rsettle_ct _ _ (by first | assumption | omega) (by assumption) _ _  (by first | assumption | exact Dk.ok_step (by assumption) | exact Dk.rst_ok (by assumption) _ _) (S := (Dk.rst S ps i)) (v := v)))) ?_
   clear hF hS; rintro _ _ _ a w ⟨_, _, rfl, rfl, ⟨rfl, rfl, rfl⟩⟩ hF hS
   replace hS : St _ (_) (_ :: _ :: _) _ := hS
   refine wpList_nil ?_
   refine hK11 _ _ ?_
   clear hK11
   refine reg hF hS (sq rfl (q_move rfl) <|
     sq rfl (q_addi rfl rfl (by omega)) <|
     sq rfl (q_assign rfl) <|
     sq_end) ?_
   clear hF hS; intro a w hF hS
   refine hK6 _ _ ?_
   clear hK6
   refine reg hF hS (sq rfl (q_move rfl) <|
     sq rfl (q_addi rfl rfl (by omega)) <|
     sq rfl (q_assign rfl) <|
     sq_end) ?_
   clear hF hS; intro a w hF hS
   refine ⟨(i + 1), ?_, ?_, hF.sub ⟨(by show some (vi _) = some (vi _); rw [Dk.cnt_1 S (by omega), if_pos hd9]; rfl), rfl, rfl, rfl, trivial⟩, ?_⟩
   ·(try dsimp only); omega
   ·omega
   ·rw [hry] at hS
    exact hS
 ·refine wp_exit ?_
  refine hK2 _ _ ?_
  clear hK2
  refine wp_seq_k ?_; intro K12 hK12
  refine regl ?_
  refine wpl_sq hF hS (sq rfl (q_move rfl) <|
    sq rfl (q_nilCheck rfl) <|
    sq rfl (q_fieldAddr ty57 rfl rfl (s' := 0) kQ) <|
    sq_end) ?_
  clear hF hS; intro a w hF hS
  refine wpl_ef hF hS rfl (ef_store1 ty4 0 rfl rfl rfl rfl (by simp)) ?_
  clear hF hS; rintro _ _ _ a w ⟨rfl, rfl, rfl⟩ hF hS
  replace hS : St _ (_) (.blk _ _ ([_, _, _].set 1 _) :: _ :: _) _ := hS
  simp only [List.set_cons_zero, List.set_cons_succ] at hS
  replace hS : St _ (_) (_ :: _ :: _) _ := hS
  refine wpList_nil ?_
  refine hK12 _ _ ?_
  clear hK12
  refine regl ?_
  refine wpl_sq hF hS (sq rfl (q_move rfl) <|
    sq rfl (q_nilCheck rfl) <|
    sq rfl (q_fieldAddr ty57 rfl rfl (s' := 0) kQ) <|
    sq_end) ?_
  clear hF hS; intro a w hF hS
  refine wpl_ef hF hS rfl (ef_store1 ty3 0 rfl rfl rfl rfl (by simp)) ?_
  clear hF hS; rintro _ _ _ a w ⟨rfl, rfl, rfl⟩ hF hS
  replace hS : St _ (_) (.blk _ _ ([_, _, _].set 2 _) :: _ :: _) _ := hS
  simp only [List.set_cons_zero, List.set_cons_succ] at hS
  replace hS : St _ (_) (_ :: _ :: _) _ := hS
  refine wpList_nil ?_
  -- falls off the end
  exact fn_retx (rs := []) rfl hF hS (vs := []) trivial [] [_, _] sQ sQ (Dk.rdr_of (S := ⟨(Dk.rst S ps i).s, false, -1⟩) ⟨rfl, rfl, rfl⟩ (Dk.mount_r S ps (by omega)) (rfl))
end Go.Proofs.Ytbgbfmdnpjpdgaa
