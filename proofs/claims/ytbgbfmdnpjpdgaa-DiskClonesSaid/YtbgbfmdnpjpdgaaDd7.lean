/- A text of a proof over this seat: walks over the program's functions and the plain laws that they need. -/
import Derived.Test.YtbgbfmdnpjpdgaaDd6
import Derived.Test.YtbgbfmdnpjpdgaaFwB
set_option linter.all false
namespace Go.Proofs.Ytbgbfmdnpjpdgaa
open Go.Fw
theorem fn56 : FnOk Try.prog 56 := ⟨_, Try.func56, rfl, by kernel_rfl⟩

set_option maxRecDepth 4000 in
set_option maxHeartbeats 2000000 in
theorem rwrite_ct {b : Nat} {v : Value} {S : Dk.Dsk} (i : Int) (t : List UInt8) (w0 : World) (zsr : List PH) (hO : Dk.Ok S) : Cx Try.prog 33 [.pointer (some ⟨b, 0, none⟩), vi i, vs t] w0 zsr [RRB b v S, RRW v S] (RRD b v ((Dk.write S i t).1) (vi (Dk.write S i t).2)) := by
 refine fn_enterx Try.func33 rfl Try.ntmps33 (Nat.le_of_ble_eq_true rfl) fun hsr a w hF hS => ?_
 replace hS : St _ (_) (_ :: _ :: _) _ := hS
 have hlo := hO.lo
 have hhi := hO.hi
 have hlf := hO.lf
 have hlg := hO.lf2
 refine wp_seq_k ?_; intro K1 hK1
 refine reg hF hS (sq rfl (q_assign rfl) <|
   sq_end) ?_
 clear hF hS; intro a w hF hS
 refine hK1 _ _ ?_
 clear hK1
 refine wp_seq_k ?_; intro K2 hK2
 refine wp_seq_k ?_; intro K3 hK3
 refine reg hF hS (sq rfl (q_move rfl) <|
   sq rfl (q_nilCheck rfl) <|
   sq rfl (q_fieldAddr ty57 rfl rfl (s' := 0) kQ) <|
   sq rfl (q_ld_blk1 ty4 0 rfl rfl rfl rfl) <|
   sq_end) ?_
 clear hF hS; intro a w hF hS
 refine hK3 _ _ ?_
 clear hK3
 refine wp_if hF rfl (fun hc1 => ?_) (fun hc1 => ?_)
 ·refine wp_seq_k ?_; intro K4 hK4
  refine reg hF hS (sq rfl (q_assign rfl) <|
    sq_end) ?_
  clear hF hS; intro a w hF hS
  refine hK4 _ _ ?_
  clear hK4
  refine wp_ret ?_
  exact fn_retx (rs := [.tmp 6]) rfl hF hS (vs := [_]) ⟨rfl, trivial⟩ [] [_, _] sQ sQ (Dk.rdr_of (S := S) ⟨rfl, rfl, rfl⟩ (by rw [Dk.write_1 (by rw [Dk.check_off hc1]; decide)]) (by rw [Dk.write_1 (by rw [Dk.check_off hc1]; decide), Dk.check_off hc1]))
 ·refine wp_skip ?_
  refine hK2 _ _ ?_
  clear hK2
  refine wp_seq_k ?_; intro K5 hK5
  refine wp_seq_k ?_; intro K6 hK6
  refine regl ?_
  refine wpl_sq hF hS (sq rfl (q_move rfl) <|
    sq rfl (q_move rfl) <|
    sq_end) ?_
  clear hF hS; intro a w hF hS
  refine wpl_ef hF hS rfl (ef_callx fn55 rfl (List.Perm.refl _) (by exact (ris_ct _ _ _  (by first | assumption | exact Dk.ok_step (by assumption) | exact Dk.rst_ok (by assumption) _ _) (S := S) (v := v)))) ?_
  clear hF hS; rintro _ _ _ a w ⟨_, _, rfl, rfl, ⟨rfl, rfl, rfl⟩⟩ hF hS
  replace hS : St _ (_) (_ :: _ :: _) _ := hS
  refine wpl_sq hF hS (sq rfl (q_not rfl) <|
    sq rfl (q_move rfl) <|
    sq_end) ?_
  clear hF hS; intro a w hF hS
  refine wpl_or 4 16 3 hF hS rfl rfl rfl rfl rfl (fun hg => have hg := hg; sq_go 16 rfl rfl rfl (q_move rfl) <|
    sq_go 16 rfl rfl rfl (q_len_s ty9 rfl) <|
    sq_go 16 rfl rfl rfl (q_nei rfl rfl) <|
    sq_end) rfl rfl ?_
  clear hF hS; intro a w hF hS
  refine wpList_nil ?_
  refine hK6 _ _ ?_
  clear hK6
  refine wp_if hF rfl (fun hc2 => ?_) (fun hc2 => ?_)
  ·(try simp only [Bool.or_eq_true, Bool.and_eq_true, Bool.or_eq_false_iff, Bool.and_eq_false_iff, decide_eq_true_eq, decide_eq_false_iff_not, Bool.not_eq_true', Bool.not_eq_false'] at hc2)
   refine wp_seq_k ?_; intro K7 hK7
   refine reg hF hS (sq rfl (q_assign rfl) <|
     sq_end) ?_
   clear hF hS; intro a w hF hS
   refine hK7 _ _ ?_
   clear hK7
   refine wp_ret ?_
   exact fn_retx (rs := [.tmp 6]) rfl hF hS (vs := [_]) ⟨rfl, trivial⟩ [] [_, _] sQ sQ (Dk.rdr_of (S := S) ⟨rfl, rfl, rfl⟩ ((Dk.wbad hc1 hc2).1) (congrArg vi (Dk.wbad hc1 hc2).2))
  ·(try simp only [Bool.or_eq_true, Bool.and_eq_true, Bool.or_eq_false_iff, Bool.and_eq_false_iff, decide_eq_true_eq, decide_eq_false_iff_not, Bool.not_eq_true', Bool.not_eq_false'] at hc2)
   have hir : 0 ≤ i ∧ i < S.s.length := by simpa using hc2.1
   have h64 : t.length = 64 := by have := hc2.2; omega
   have hc0 := Dk.check_in (S := S) (i := i) (by rw [hc1]; simp) hir
   refine wp_skip ?_
   refine hK5 _ _ ?_
   clear hK5
   refine wp_seq_k ?_; intro K8 hK8
   refine regl ?_
   refine wpl_sq hF hS (sq rfl (q_move rfl) <|
     sq_end) ?_
   clear hF hS; intro a w hF hS
   refine wpl_ef hF hS rfl (ef_callx fn56 rfl (List.Perm.refl _) (by exact (rstep_ct _ _  (by first | assumption | exact Dk.ok_step (by assumption) | exact Dk.rst_ok (by assumption) _ _) (S := S) (v := v)))) ?_
   clear hF hS; rintro _ _ _ a w ⟨_, _, rfl, rfl, ⟨rfl, rfl, rfl⟩⟩ hF hS
   replace hS : St _ (_) (_ :: _ :: _) _ := hS
   refine wpl_sq hF hS (sq rfl (q_assign rfl) <|
     sq_end) ?_
   clear hF hS; intro a w hF hS
   refine wpList_nil ?_
   refine hK8 _ _ ?_
   clear hK8
   refine wp_seq_k ?_; intro K9 hK9
   refine wp_seq_k ?_; intro K10 hK10
   refine reg hF hS (sq rfl (q_move rfl) <|
     sq rfl (q_nei rfl rfl) <|
     sq_end) ?_
   clear hF hS; intro a w hF hS
   refine hK10 _ _ ?_
   clear hK10
   refine wp_ifn hF rfl (fun hc3 => ?_) (fun hc3 => ?_)
   ·refine wp_seq_k ?_; intro K11 hK11
    refine reg hF hS (sq rfl (q_move rfl) <|
      sq rfl (q_assign rfl) <|
      sq_end) ?_
    clear hF hS; intro a w hF hS
    refine hK11 _ _ ?_
    clear hK11
    refine wp_ret ?_
    exact fn_retx (rs := [.tmp 6]) rfl hF hS (vs := [_]) ⟨rfl, trivial⟩ [] [_, _] sQ sQ (Dk.rdr_of (S := (Dk.step S).1) ⟨rfl, rfl, rfl⟩ (by rw [Dk.write_3 hc0 h64 hc3]) (by rw [Dk.write_3 hc0 h64 hc3]))
   ·have hs0 : (Dk.step S).2 = 0 := by omega
    have hO1 := Dk.ok_step hO
    have hir2 : 0 ≤ i ∧ i < (Dk.step S).1.s.length := by rw [Dk.step_s]; exact hir
    refine wp_skip ?_
    refine hK9 _ _ ?_
    clear hK9
    refine wp_seq_k ?_; intro K12 hK12
    refine regl ?_
    refine wpl_sq hF hS (sq rfl (q_move rfl) <|
      sq rfl (q_nilCheck rfl) <|
      sq rfl (q_fieldAddr ty57 rfl rfl (s' := 0) kQ) <|
      sq rfl (q_ld_blk1 ty55 0 rfl rfl rfl rfl) <|
      sq rfl (q_move rfl) <|
      sq rfl (q_move rfl) <|
      sq rfl (q_idx_row ty55 ty54 1 rfl rfl rfl (by omega)) <|
      sq rfl (q_fld_row ty54 1 rfl rfl (by omega) rfl (s' := 0) kQ) <|
      sq_end) ?_
    clear hF hS; intro a w hF hS
    refine wpl_ef hF hS rfl (ef_st_rowK (x' := ⟨(((Dk.step S).1).at i).tx, t, (((Dk.step S).1).at i).dt, (((Dk.step S).1).at i).wn⟩) Dk.secC_len ty9 1 rfl rfl rfl (Dk.at_some (S := (Dk.step S).1) hir2) (by decide) rfl rfl) ?_
    clear hF hS; rintro _ _ _ a w ⟨rfl, rfl, rfl⟩ hF hS
    replace hS : St _ (_) (_ :: _ :: _) _ := hS
    refine wpList_nil ?_
    refine hK12 _ _ ?_
    clear hK12
    refine wp_seq_k ?_; intro K13 hK13
    refine regl ?_
    refine wpl_sq hF hS (sq rfl (q_move rfl) <|
      sq rfl (q_nilCheck rfl) <|
      sq rfl (q_fieldAddr ty57 rfl rfl (s' := 0) kQ) <|
      sq rfl (q_ld_blk1 ty55 0 rfl rfl rfl rfl) <|
      sq rfl (q_move rfl) <|
      sq rfl (q_idx_row ty55 ty54 1 rfl rfl rfl (by omega)) <|
      sq rfl (q_fld_row ty54 1 rfl rfl (by omega) rfl (s' := 0) kQ) <|
      sq_end) ?_
    clear hF hS; intro a w hF hS
    refine wpl_ef hF hS rfl (ef_st_rowK (x' := ⟨(((Dk.step S).1).at i).tx, t, true, (((Dk.step S).1).at i).wn⟩) Dk.secC_len ty4 1 rfl rfl rfl (Dk.set_some (S := (Dk.step S).1) hir2) (by decide) rfl rfl) ?_
    clear hF hS; rintro _ _ _ a w ⟨rfl, rfl, rfl⟩ hF hS
    replace hS : St _ (_) (_ :: _ :: _) _ := hS
    refine wpList_nil ?_
    refine hK13 _ _ ?_
    clear hK13
    refine wp_seq_k ?_; intro K14 hK14
    refine reg hF hS (sq rfl (q_assign rfl) <|
      sq_end) ?_
    clear hF hS; intro a w hF hS
    refine hK14 _ _ ?_
    clear hK14
    refine wp_ret ?_
    exact fn_retx (rs := [.tmp 6]) rfl hF hS (vs := [_]) ⟨rfl, trivial⟩ [] [_, _] sQ sQ (Dk.rdr_of (S := Dk.mark ((Dk.step S).1) i t) ⟨rfl, rfl, by exact congrArg (fun r => [_, r]) Dk.rw_set2⟩ (by rw [Dk.write_4 hc0 h64 hs0]) (by rw [Dk.write_4 hc0 h64 hs0]))

set_option maxRecDepth 4000 in
set_option maxHeartbeats 2000000 in
theorem rsettle_ct {b : Nat} {v : Value} {S : Dk.Dsk} (i p : Int) (hi : 0 ≤ i ∧ i < S.s.length) (hd : (S.at i).dt = true) (w0 : World) (zsr : List PH) (hO : Dk.Ok S) : Cx Try.prog 57 [.pointer (some ⟨b, 0, none⟩), vi i, vi p] w0 zsr [RRB b v S, RRW v S] (RRD b v (S.put i (Dk.settle1 (S.at i) p)) (.tuple ([] : List Value).toArray)) := by
 refine fn_enterx Try.func57 rfl Try.ntmps57 (Nat.le_of_ble_eq_true rfl) fun hsr a w hF hS => ?_
 replace hS : St _ (_) (_ :: _ :: _) _ := hS
 have hlo := hO.lo
 have hhi := hO.hi
 have hlf := hO.lf
 have hlg := hO.lf2
 have hnx : (S.s.getD i.toNat Dk.s0).nx.length = 64 := (hO.at hi).2.1 hd
 have htx : (S.s.getD i.toNat Dk.s0).tx.length = 64 := (hO.at hi).1
 have hat : S.at i = S.s.getD i.toNat Dk.s0 := rfl
 have hsc : (Dk.secC (S.s.getD i.toNat Dk.s0)).length = 4 := rfl
 have hta : (List.take (max 0 (min p 64)).toNat (S.s.getD i.toNat Dk.s0).nx).length ≤ 64 := by rw [List.length_take]; omega
 have htb : (List.drop (max 0 (min p 64)).toNat (S.s.getD i.toNat Dk.s0).tx).length ≤ 64 := by rw [List.length_drop]; omega
 refine wp_seq_k ?_; intro K1 hK1
 refine regl ?_
 refine wpl_sq hF hS (sq rfl (q_move rfl) <|
   sq rfl (q_nilCheck rfl) <|
   sq rfl (q_fieldAddr ty57 rfl rfl (s' := 0) kQ) <|
   sq rfl (q_ld_blk1 ty55 0 rfl rfl rfl rfl) <|
   sq rfl (q_move rfl) <|
   sq rfl (q_idx_row ty55 ty54 1 rfl rfl rfl (by omega)) <|
   sq rfl (q_ld_rowKW Dk.secC_len Dk.s0 ty54 1 rfl rfl rfl (by decide) (by omega)) <|
   sq_end) ?_
 clear hF hS; intro a w hF hS
 refine wpl_ef hF hS rfl (ef_allocA ty54) ?_
 clear hF hS; rintro _ _ _ a w ⟨b1, rfl, rfl, rfl⟩ hF hS
 refine wpl_ef hF hS rfl (ef_storeW ty54 0 rfl rfl rfl rfl bQ (oc_cons rfl (oc_cons rfl (oc_cons rfl (oc_cons rfl oc_nil)))) bQ) ?_
 clear hF hS; rintro _ _ _ a w ⟨rfl, rfl, rfl⟩ hF hS
 replace hS : St _ (_) (_ :: _ :: _ :: _) _ := hS
 refine wpList_nil ?_
 rw [show Dk.secC (S.s.getD i.toNat Dk.s0) = [vs (S.s.getD i.toNat Dk.s0).tx, vs (S.s.getD i.toNat Dk.s0).nx, .bool (S.s.getD i.toNat Dk.s0).dt, .bool (S.s.getD i.toNat Dk.s0).wn] from rfl] at hS
 refine hK1 _ _ ?_
 clear hK1
 refine wp_seq_k ?_; intro K2 hK2
 refine reg hF hS (sq rfl (q_move rfl) <|
   sq rfl (q_min rfl rfl) <|
   sq rfl (q_max rfl rfl) <|
   sq rfl (q_assign rfl) <|
   sq_end) ?_
 clear hF hS; intro a w hF hS
 refine hK2 _ _ ?_
 clear hK2
 refine wp_seq_k ?_; intro K3 hK3
 refine wp_seq_k ?_; intro K4 hK4
 refine reg hF hS (sq rfl (q_fieldAddr ty54 rfl rfl (s' := 0) kQ) <|
   sq rfl (q_ld_blk1 ty4 0 rfl rfl rfl rfl) <|
   sq rfl (q_not rfl) <|
   sq_end) ?_
 clear hF hS; intro a w hF hS
 refine hK4 _ _ ?_
 clear hK4
 refine wp_if hF rfl (fun hc1 => ?_) (fun hc1 => ?_)
 ·refine regt 10 mixed kQ hF hS (sq rfl (q_fieldAddr ty54 rfl rfl (s' := 0) kQ) <|
    sq rfl (q_ld_blk1 ty9 0 rfl rfl rfl rfl) <|
    sq rfl (q_move rfl) <|
    sq rfl (q_sl_s_hi ty9 rfl rfl (by omega)) <|
    sq rfl (q_fieldAddr ty54 rfl rfl (s' := 0) kQ) <|
    sq rfl (q_ld_blk1 ty9 0 rfl rfl rfl rfl) <|
    sq rfl (q_move rfl) <|
    sq rfl (q_sl_s_lo ty9 rfl rfl (by omega)) <|
    sq rfl (q_adds rfl rfl bQ) <|
    sq rfl (q_fieldAddr ty54 rfl rfl (s' := 0) kQ) <|
    sq_end) ?_
  clear hF hS; intro a w hF hS
  refine wpl_ef hF hS rfl (ef_store1 ty9 0 rfl rfl rfl rfl (by simp)) ?_
  clear hF hS; rintro _ _ _ a w ⟨rfl, rfl, rfl⟩ hF hS
  replace hS : St _ (_) (.blk _ _ ([_, _, _, _].set 0 _) :: _ :: _ :: _) _ := hS
  simp only [List.set_cons_zero, List.set_cons_succ] at hS
  replace hS : St _ (_) (_ :: _ :: _ :: _) _ := hS
  refine wpList_nil ?_
  refine hK3 _ _ ?_
  clear hK3
  refine wp_seq_k ?_; intro K5 hK5
  refine regl ?_
  refine wpl_sq hF hS (sq rfl (q_fieldAddr ty54 rfl rfl (s' := 0) kQ) <|
    sq_end) ?_
  clear hF hS; intro a w hF hS
  refine wpl_ef hF hS rfl (ef_store1 ty9 0 rfl rfl rfl rfl (by simp)) ?_
  clear hF hS; rintro _ _ _ a w ⟨rfl, rfl, rfl⟩ hF hS
  replace hS : St _ (_) (.blk _ _ ([_, _, _, _].set 1 _) :: _ :: _ :: _) _ := hS
  simp only [List.set_cons_zero, List.set_cons_succ] at hS
  replace hS : St _ (_) (_ :: _ :: _ :: _) _ := hS
  refine wpList_nil ?_
  refine hK5 _ _ ?_
  clear hK5
  refine wp_seq_k ?_; intro K6 hK6
  refine regl ?_
  refine wpl_sq hF hS (sq rfl (q_fieldAddr ty54 rfl rfl (s' := 0) kQ) <|
    sq_end) ?_
  clear hF hS; intro a w hF hS
  refine wpl_ef hF hS rfl (ef_store1 ty4 0 rfl rfl rfl rfl (by simp)) ?_
  clear hF hS; rintro _ _ _ a w ⟨rfl, rfl, rfl⟩ hF hS
  replace hS : St _ (_) (.blk _ _ ([_, _, _, _].set 2 _) :: _ :: _ :: _) _ := hS
  simp only [List.set_cons_zero, List.set_cons_succ] at hS
  replace hS : St _ (_) (_ :: _ :: _ :: _) _ := hS
  refine wpList_nil ?_
  refine hK6 _ _ ?_
  clear hK6
  refine regt 7 mixed kQ hF hS (sq rfl (q_move rfl) <|
    sq rfl (q_nilCheck rfl) <|
    sq rfl (q_fieldAddr ty57 rfl rfl (s' := 0) kQ) <|
    sq rfl (q_ld_blk1 ty55 1 rfl rfl rfl rfl) <|
    sq rfl (q_move rfl) <|
    sq rfl (q_ld_blkW ty54 0 rfl rfl bQ rfl) <|
    sq rfl (q_idx_row ty55 ty54 2 rfl rfl rfl (by omega)) <|
    sq_end) ?_
  clear hF hS; intro a w hF hS
  refine wpl_ef hF hS rfl (ef_st_rowKW Dk.secC_len Dk.secC_one ty54 2 (a := ⟨(S.s.getD i.toNat Dk.s0).nx.take (max 0 (min p 64)).toNat ++ (S.s.getD i.toNat Dk.s0).tx.drop (max 0 (min p 64)).toNat, [], false, (S.s.getD i.toNat Dk.s0).wn⟩) rfl rfl rfl rfl rfl bQ) ?_
  clear hF hS; rintro _ _ _ a w ⟨rfl, rfl, rfl⟩ hF hS
  replace hS : St _ (_) (_ :: _ :: _ :: _) _ := hS
  refine wpList_nil ?_
  -- falls off the end
  replace hS := hS.perm (.swap _ _ _)
  replace hS := hS.perm (.cons _ (.swap _ _ _))
  exact fn_retx (rs := []) rfl hF hS (vs := []) trivial [] [_, _] sQ (sQ.n.k.k) (Dk.rdr_of (S := S.put i ⟨(S.s.getD i.toNat Dk.s0).nx.take (max 0 (min p 64)).toNat ++ (S.s.getD i.toNat Dk.s0).tx.drop (max 0 (min p 64)).toNat, [], false, (S.s.getD i.toNat Dk.s0).wn⟩) ⟨rfl, rfl, by exact congrArg (fun r => [_, r]) Dk.rw_set1⟩ (by rw [Dk.sect_settle, if_neg (by rw [hat]; simpa using hc1), hat]; rfl) (rfl))
 ·refine wp_skip ?_
  refine hK3 _ _ ?_
  clear hK3
  refine wp_seq_k ?_; intro K7 hK7
  refine regl ?_
  refine wpl_sq hF hS (sq rfl (q_fieldAddr ty54 rfl rfl (s' := 0) kQ) <|
    sq_end) ?_
  clear hF hS; intro a w hF hS
  refine wpl_ef hF hS rfl (ef_store1 ty9 0 rfl rfl rfl rfl (by simp)) ?_
  clear hF hS; rintro _ _ _ a w ⟨rfl, rfl, rfl⟩ hF hS
  replace hS : St _ (_) (.blk _ _ ([_, _, _, _].set 1 _) :: _ :: _ :: _) _ := hS
  simp only [List.set_cons_zero, List.set_cons_succ] at hS
  replace hS : St _ (_) (_ :: _ :: _ :: _) _ := hS
  refine wpList_nil ?_
  refine hK7 _ _ ?_
  clear hK7
  refine wp_seq_k ?_; intro K8 hK8
  refine regl ?_
  refine wpl_sq hF hS (sq rfl (q_fieldAddr ty54 rfl rfl (s' := 0) kQ) <|
    sq_end) ?_
  clear hF hS; intro a w hF hS
  refine wpl_ef hF hS rfl (ef_store1 ty4 0 rfl rfl rfl rfl (by simp)) ?_
  clear hF hS; rintro _ _ _ a w ⟨rfl, rfl, rfl⟩ hF hS
  replace hS : St _ (_) (.blk _ _ ([_, _, _, _].set 2 _) :: _ :: _ :: _) _ := hS
  simp only [List.set_cons_zero, List.set_cons_succ] at hS
  replace hS : St _ (_) (_ :: _ :: _ :: _) _ := hS
  refine wpList_nil ?_
  refine hK8 _ _ ?_
  clear hK8
  refine regt 7 mixed kQ hF hS (sq rfl (q_move rfl) <|
    sq rfl (q_nilCheck rfl) <|
    sq rfl (q_fieldAddr ty57 rfl rfl (s' := 0) kQ) <|
    sq rfl (q_ld_blk1 ty55 1 rfl rfl rfl rfl) <|
    sq rfl (q_move rfl) <|
    sq rfl (q_ld_blkW ty54 0 rfl rfl bQ rfl) <|
    sq rfl (q_idx_row ty55 ty54 2 rfl rfl rfl (by omega)) <|
    sq_end) ?_
  clear hF hS; intro a w hF hS
  refine wpl_ef hF hS rfl (ef_st_rowKW Dk.secC_len Dk.secC_one ty54 2 (a := ⟨(S.s.getD i.toNat Dk.s0).tx, [], false, (S.s.getD i.toNat Dk.s0).wn⟩) rfl rfl rfl rfl rfl bQ) ?_
  clear hF hS; rintro _ _ _ a w ⟨rfl, rfl, rfl⟩ hF hS
  replace hS : St _ (_) (_ :: _ :: _ :: _) _ := hS
  refine wpList_nil ?_
  -- falls off the end
  replace hS := hS.perm (.swap _ _ _)
  replace hS := hS.perm (.cons _ (.swap _ _ _))
  exact fn_retx (rs := []) rfl hF hS (vs := []) trivial [] [_, _] sQ (sQ.n.k.k) (Dk.rdr_of (S := S.put i ⟨(S.s.getD i.toNat Dk.s0).tx, [], false, (S.s.getD i.toNat Dk.s0).wn⟩) ⟨rfl, rfl, by exact congrArg (fun r => [_, r]) Dk.rw_set1⟩ (by rw [Dk.sect_settle, if_pos (by rw [hat]; simpa using hc1), hat]) (rfl))
end Go.Proofs.Ytbgbfmdnpjpdgaa
