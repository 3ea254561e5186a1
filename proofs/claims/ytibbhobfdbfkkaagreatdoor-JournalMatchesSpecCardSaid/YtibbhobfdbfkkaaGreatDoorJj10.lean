/- A text of a proof over this seat: walks over the program's functions and the plain laws that they need. -/
import Derived.Test.YtibbhobfdbfkkaaGreatDoorJj9
import Derived.Test.YtibbhobfdbfkkaaGreatDoorJnA
import Derived.Test.YtibbhobfdbfkkaaGreatDoorFwD
import Derived.Test.YtibbhobfdbfkkaaGreatDoorFwB
set_option linter.all false
namespace Go.Proofs.YtibbhobfdbfkkaaGreatDoor
open Go.Fw
theorem fn11 : FnOk Tryz.prog 11 := ⟨_, Tryz.func11, rfl, by kernel_rfl⟩
theorem fn53 : FnOk Tryz.prog 53 := ⟨_, Tryz.func53, rfl, by kernel_rfl⟩
theorem fn59 : FnOk Tryz.prog 59 := ⟨_, Tryz.func59, rfl, by kernel_rfl⟩
theorem fn60 : FnOk Tryz.prog 60 := ⟨_, Tryz.func60, rfl, by kernel_rfl⟩
theorem fn66 : FnOk Tryz.prog 66 := ⟨_, Tryz.func66, rfl, by kernel_rfl⟩

attribute [local irreducible] Sha.sum Jn.good Jn.hd Jn.lb Jn.cnt Jn.secs

set_option maxRecDepth 4000 in
set_option maxHeartbeats 2000000 in
theorem happend_ct (b bd : Nat) (v : Value) (J : Jn.JS) (S : Dk.Dsk) (t : List UInt8) (w0 : World) (zsr : List PH) {q1 q2 q3 q4 : Res} {fz0 : Nat × Nat} {bt0 : TypeId} (hg0 : w0.heap[0]? = some (.cells (Sha.kc.map vw).toArray bt0 fz0)) (hJ : HJ b bd J q1 q2 q3 q4) (hO : Dk.Ok S) : Cx Tryz.prog 30 [.pointer (some ⟨b, 0, none⟩), vs t] w0 zsr [q1, q2, q3, q4, RRB bd v S, RRW v S] (Jn.RJR (HJ b bd) (RRB bd v) (RRW v) (Jn.app J S t).1 (Jn.app J S t).2.1 (.tuple [vi (Jn.app J S t).2.2.1, vi (Jn.app J S t).2.2.2].toArray)) := by
 refine fn_enterx Tryz.func30 rfl Tryz.ntmps30 (Nat.le_of_ble_eq_true rfl) fun hsr a w hF hS => ?_
 replace hS : St _ (_) (_ :: _ :: _ :: _ :: _ :: _ :: _) _ := hS
 obtain ⟨un, ubd, ut, hVf, rfl, rfl, rfl, rfl⟩ := hJ
 have hv1 := hVf.n1
 have hv2 := hVf.n2
 have hv3 := hVf.e1
 have hv4 := hVf.e2
 have hv5 := hVf.nl
 have hv6 := hVf.tl
 have hv7 := hVf.bl
 have hv8 := hVf.nr'
 have hv9 := hVf.br'
 have hv10 := hVf.tr'
 replace hS : St _ (_) (_ :: _ :: _ :: _ :: _ :: _ :: _) _ := hS
 have hlo := hO.lo
 have hhi := hO.hi
 refine wp_seq_k ?_; intro K1 hK1
 refine reg hF hS (sq rfl (q_assign rfl) <|
   sq rfl (q_assign rfl) <|
   sq_end) ?_
 clear hF hS; intro a w hF hS
 refine hK1 _ _ ?_
 clear hK1
 refine wp_seq_k ?_; intro K2 hK2
 refine wp_seq_k ?_; intro K3 hK3
 refine reg hF hS (sq rfl (q_move rfl) <|
   sq rfl (q_nilCheck rfl) <|
   sq rfl (q_fieldAddr ty66 rfl rfl (s' := 0) kQ) <|
   sq rfl (q_ld_blk1 ty4 0 rfl rfl rfl rfl) <|
   sq_end) ?_
 clear hF hS; intro a w hF hS
 refine hK3 _ _ ?_
 clear hK3
 refine wp_if hF rfl (fun hc1 => ?_) (fun hc1 => ?_)
 ·refine wp_seq_k ?_; intro K4 hK4
  refine reg hF hS (sq rfl (q_assign rfl) <|
    sq rfl (q_assign rfl) <|
    sq_end) ?_
  clear hF hS; intro a w hF hS
  refine hK4 _ _ ?_
  clear hK4
  refine wp_ret ?_
  exact fn_retx (rs := [.tmp 4, .tmp 5]) rfl hF hS (vs := [_, _]) ⟨rfl, rfl, trivial⟩ [] [_, _, _, _, _, _] sQ sQ (Jn.rjr_of (B := RRB bd v) (W := RRW v) (J := J) (S := S) ⟨rfl, rfl, _, _, _, _, rfl, ⟨un, ubd, ut, hVf, rfl, rfl, rfl, rfl⟩⟩ (by rw [Jn.app_1 hc1]) (by rw [Jn.app_1 hc1]) (by rw [Jn.app_1 hc1]))
 ·refine wp_skip ?_
  refine hK2 _ _ ?_
  clear hK2
  refine wp_seq_k ?_; intro K5 hK5
  refine wp_seq_k ?_; intro K6 hK6
  refine regl ?_
  refine wpl_sq hF hS (sq rfl (q_move rfl) <|
    sq rfl (q_len_s ty9 rfl) <|
    sq rfl (q_gti rfl rfl) <|
    sq rfl (q_move rfl) <|
    sq_end) ?_
  clear hF hS; intro a w hF hS
  refine wpl_or 3 24 5 hF hS rfl rfl rfl rfl rfl (fun hg => have hg := (by first | exact of_decide_eq_false hg | exact hg); sq_go 24 rfl rfl rfl (q_move rfl) <|
    sq_go 24 rfl rfl rfl (q_nilCheck rfl) <|
    sq_go 24 rfl rfl rfl (q_fieldAddr ty66 rfl rfl (s' := 0) kQ) <|
    sq_go 24 rfl rfl rfl (q_ld_blk1 ty3 0 rfl rfl rfl rfl) <|
    sq_go 24 rfl rfl rfl (q_gti rfl rfl) <|
    sq_end) rfl rfl ?_
  clear hF hS; intro a w hF hS
  refine wpList_nil ?_
  refine hK6 _ _ ?_
  clear hK6
  refine wp_if hF rfl (fun hc2 => ?_) (fun hc2 => ?_)
  ·(try simp only [Bool.or_eq_true, Bool.and_eq_true, Bool.or_eq_false_iff, Bool.and_eq_false_iff, decide_eq_true_eq, decide_eq_false_iff_not, Bool.not_eq_true', Bool.not_eq_false'] at hc2)
   refine wp_seq_k ?_; intro K7 hK7
   refine reg hF hS (sq rfl (q_assign rfl) <|
     sq rfl (q_assign rfl) <|
     sq_end) ?_
   clear hF hS; intro a w hF hS
   refine hK7 _ _ ?_
   clear hK7
   refine wp_ret ?_
   exact fn_retx (rs := [.tmp 4, .tmp 5]) rfl hF hS (vs := [_, _]) ⟨rfl, rfl, trivial⟩ [] [_, _, _, _, _, _] sQ sQ (Jn.rjr_of (B := RRB bd v) (W := RRW v) (J := J) (S := S) ⟨rfl, rfl, _, _, _, _, rfl, ⟨un, ubd, ut, hVf, rfl, rfl, rfl, rfl⟩⟩ (by rw [Jn.app_2 (by rw [hc1]; simp) (by omega)]) (by rw [Jn.app_2 (by rw [hc1]; simp) (by omega)]) (by rw [Jn.app_2 (by rw [hc1]; simp) (by omega)]))
  ·(try simp only [Bool.or_eq_true, Bool.and_eq_true, Bool.or_eq_false_iff, Bool.and_eq_false_iff, decide_eq_true_eq, decide_eq_false_iff_not, Bool.not_eq_true', Bool.not_eq_false'] at hc2)
   refine wp_skip ?_
   refine hK5 _ _ ?_
   clear hK5
   refine wp_seq_k ?_; intro K8 hK8
   refine wp_seq_k ?_; intro K9 hK9
   refine regl ?_
   refine wpl_sq hF hS (sq rfl (q_move rfl) <|
     sq rfl (q_len_s ty9 rfl) <|
     sq rfl (q_call fn56 rfl (fun w hS => rcount_ct _ (by first | assumption | omega) w ) (fun _ _ _ h => h)) <|
     sq rfl (q_move rfl) <|
     sq_end) ?_
   clear hF hS; intro a w hF hS
   refine wpl_ef hF hS rfl (ef_callx fn59 rfl (List.Perm.refl _) (by exact (hroom_ct _ bd v J S _ _  ⟨un, ubd, ut, hVf, rfl, rfl, rfl, rfl⟩ (by assumption)))) ?_
   clear hF hS; rintro _ _ _ a w ⟨_, _, rfl, rfl, ⟨rfl, rfl, qa2, qb3, qc4, qd5, rfl, hJ6⟩⟩ hF hS
   replace hS : St _ (_) (_ :: _ :: _ :: _ :: _ :: _ :: _) _ := hS
   refine wpl_sq hF hS (sq rfl (q_gti rfl rfl) <|
     sq_end) ?_
   clear hF hS; intro a w hF hS
   refine wpList_nil ?_
   obtain ⟨un1, ubd1, ut1, hVf1, rfl, rfl, rfl, rfl⟩ := hJ6
   have hv11 := hVf1.n1
   have hv21 := hVf1.n2
   have hv31 := hVf1.e1
   have hv41 := hVf1.e2
   have hv51 := hVf1.nl
   have hv61 := hVf1.tl
   have hv71 := hVf1.bl
   have hv81 := hVf1.nr'
   have hv91 := hVf1.br'
   have hv101 := hVf1.tr'
   replace hS : St _ (_) (_ :: _ :: _ :: _ :: _ :: _ :: _) _ := hS
   refine hK9 _ _ ?_
   clear hK9
   refine wp_ifd hF rfl (fun hc3 => ?_) (fun hc3 => ?_)
   ·refine wp_seq_k ?_; intro K10 hK10
    refine reg hF hS (sq rfl (q_assign rfl) <|
      sq rfl (q_assign rfl) <|
      sq_end) ?_
    clear hF hS; intro a w hF hS
    refine hK10 _ _ ?_
    clear hK10
    refine wp_ret ?_
    exact fn_retx (rs := [.tmp 4, .tmp 5]) rfl hF hS (vs := [_, _]) ⟨rfl, rfl, trivial⟩ [] [_, _, _, _, _, _] sQ sQ (Jn.rjr_of (B := RRB bd v) (W := RRW v) (J := J) (S := S) ⟨rfl, rfl, _, _, _, _, rfl, ⟨un1, ubd1, ut1, hVf1, rfl, rfl, rfl, rfl⟩⟩ (by rw [Jn.app_3 (by rw [hc1]; simp) (by omega) (by omega)]) (by rw [Jn.app_3 (by rw [hc1]; simp) (by omega) (by omega)]) (by rw [Jn.app_3 (by rw [hc1]; simp) (by omega) (by omega)]))
   ·have hbl : ¬ J.cl = true := by rw [hc1]; simp
    have hln : t.length ≤ 8000 ∧ J.next ≤ 4096 := by omega
    have hrm : ¬ Jn.room J S < Jn.cnt t.length := by omega
    have hcr := Jn.cnt_rng t.length
    have hsl9 : ((Jn.secs J.next t).length : Int) = Jn.cnt t.length := by rw [Jn.secs_len, Int.toNat_of_nonneg hcr.1]
    have hrm2 := hrm
    unfold Jn.room at hrm2
    have hVf2 := Jn.wf_1 hVf (by omega) hln hrm
    refine wp_skip ?_
    refine hK8 _ _ ?_
    clear hK8
    refine wp_seq_k ?_; intro K11 hK11
    refine reg hF hS (sq rfl (q_move rfl) <|
      sq rfl (q_nilCheck rfl) <|
      sq rfl (q_fieldAddr ty66 rfl rfl (s' := 0) kQ) <|
      sq rfl (q_ld_blk1 ty3 0 rfl rfl rfl rfl) <|
      sq rfl (q_assign rfl) <|
      sq_end) ?_
    clear hF hS; intro a w hF hS
    refine hK11 _ _ ?_
    clear hK11
    refine wp_seq_k ?_; intro K12 hK12
    refine reg hF hS (sq rfl (q_move rfl) <|
      sq rfl (q_nilCheck rfl) <|
      sq rfl (q_fieldAddr ty66 rfl rfl (s' := 0) kQ) <|
      sq rfl (q_ld_blk1 ty3 0 rfl rfl rfl rfl) <|
      sq rfl (q_assign rfl) <|
      sq_end) ?_
    clear hF hS; intro a w hF hS
    refine hK12 _ _ ?_
    clear hK12
    refine wp_seq_k ?_; intro K13 hK13
    refine regl ?_
    refine wpl_sq hF hS (sq rfl (q_move rfl) <|
      sq rfl (q_move rfl) <|
      sq_end) ?_
    clear hF hS; intro a w hF hS
    refine wpl_ef hF hS rfl (ef_call fn60 rfl (fun w hS => rpack_ct _ _ (by omega) w (hS.ext _ _ hg0))) ?_
    clear hF hS; rintro _ _ _ a w ⟨_, _, rfl, rfl, ⟨v8, rfl, rfl, rfl⟩⟩ hF hS
    replace hS : St _ (_) (_ :: _ :: _ :: _ :: _ :: _ :: _ :: _) _ := hS
    refine wpl_sq hF hS (sq rfl (q_move rfl) <|
      sq rfl (q_extract rfl rfl) <|
      sq rfl (q_extract rfl rfl) <|
      sq rfl (q_assign rfl) <|
      sq rfl (q_assign rfl) <|
      sq_end) ?_
    clear hF hS; intro a w hF hS
    refine wpList_nil ?_
    rw [Jn.pack_3 (by omega) (by omega)] at hS hF
    dsimp only at hS hF
    refine hK13 _ _ ?_
    clear hK13
    refine wp_seq_k ?_; intro K14 hK14
    refine regl ?_
    refine wpl_sq hF hS (sq rfl (q_move rfl) <|
      sq rfl (q_move rfl) <|
      sq rfl (q_addi rfl rfl (by omega)) <|
      sq rfl (q_nilCheck rfl) <|
      sq rfl (q_fieldAddr ty66 rfl rfl (s' := 0) kQ) <|
      sq_end) ?_
    clear hF hS; intro a w hF hS
    refine wpl_ef hF hS rfl (ef_store1 ty3 1 rfl rfl rfl rfl (by simp)) ?_
    clear hF hS; rintro _ _ _ a w ⟨rfl, rfl, rfl⟩ hF hS
    replace hS : St _ (_) (_ :: .blk _ _ ([_, _, _, _, _, _, _].set 4 _) :: _ :: _ :: _ :: _ :: _ :: _) _ := hS
    simp only [List.set_cons_zero, List.set_cons_succ] at hS
    replace hS : St _ (_) (_ :: _ :: _ :: _ :: _ :: _ :: _ :: _) _ := hS
    refine wpList_nil ?_
    refine hK14 _ _ ?_
    clear hK14
    refine wp_seq_k ?_; intro K15 hK15
    refine regl ?_
    refine wpl_sq hF hS (sq rfl (q_move rfl) <|
      sq rfl (q_move rfl) <|
      sq rfl (q_move rfl) <|
      sq rfl (q_len_row ty22 0 rfl rfl) <|
      sq rfl (q_addi rfl rfl (by omega)) <|
      sq rfl (q_nilCheck rfl) <|
      sq rfl (q_fieldAddr ty66 rfl rfl (s' := 0) kQ) <|
      sq_end) ?_
    clear hF hS; intro a w hF hS
    refine wpl_ef hF hS rfl (ef_store1 ty3 1 rfl rfl rfl rfl (by simp)) ?_
    clear hF hS; rintro _ _ _ a w ⟨rfl, rfl, rfl⟩ hF hS
    replace hS : St _ (_) (_ :: .blk _ _ ([_, _, _, _, _, _, _].set 5 _) :: _ :: _ :: _ :: _ :: _ :: _) _ := hS
    simp only [List.set_cons_zero, List.set_cons_succ] at hS
    replace hS : St _ (_) (_ :: _ :: _ :: _ :: _ :: _ :: _ :: _) _ := hS
    refine wpList_nil ?_
    refine hK15 _ _ ?_
    clear hK15
    refine wp_seq_k ?_; intro K16 hK16
    refine wp_seq_k ?_; intro K17 hK17
    refine reg hF hS (sq rfl (q_assign rfl) <|
      sq_end) ?_
    clear hF hS; intro a w hF hS
    refine hK17 _ _ ?_
    clear hK17
    refine wp_block ?_
    obtain ⟨hs0, hhs0, hS⟩ : ∃ h, h = _ ∧ St _ _ h _ := ⟨_, rfl, hS⟩
    refine wp_loopx (γ := Nat) (0) (fun (i : Nat) => [(10, vi (i : Int))]) [(0, _), (1, _), (6, _), (7, _), (8, _)] (fun (i : Nat) => ((hs0.set 5 (RRB bd v (Jn.wrN S J.en (Jn.secs J.next t) i).1)).set 6 (RRW v (Jn.wrN S J.en (Jn.secs J.next t) i).1))) (fun (i : Nat) => i ≤ (Jn.secs J.next t).length ∧ (Jn.wrN S J.en (Jn.secs J.next t) i).2 = 0) (fun (i : Nat) => (Jn.secs J.next t).length - i) (hF.sub ⟨rfl, rfl, rfl, rfl, rfl, rfl, trivial⟩) (by subst hhs0; exact hS) (by exact ⟨Nat.zero_le _, rfl⟩) ?_
    clear hF hS; rintro i a w hfact hF hS
    subst hhs0; (try dsimp only at hfact); (try dsimp only at hF); (try dsimp only at hS)
    obtain ⟨hi0, hw0⟩ := hfact
    replace hS : St _ (_) (_ :: _ :: _ :: _ :: _ :: _ :: _ :: _) _ := hS
    have hOw := Jn.wrN_ok hO J.en (Jn.secs J.next t) i
    refine wp_seq_k ?_; intro K18 hK18
    refine wp_seq_k ?_; intro K19 hK19
    refine reg hF hS (sq rfl (q_move rfl) <|
      sq rfl (q_move rfl) <|
      sq rfl (q_len_row ty22 0 rfl rfl) <|
      sq rfl (q_lti rfl rfl) <|
      sq_end) ?_
    clear hF hS; intro a w hF hS
    refine hK19 _ _ ?_
    clear hK19
    refine wp_ifd hF rfl (fun hc4 => ?_) (fun hc4 => ?_)
    ·refine wp_skip ?_
     refine hK18 _ _ ?_
     clear hK18
     refine wp_seq_k ?_; intro K20 hK20
     refine wp_block ?_
     refine wp_seq_k ?_; intro K21 hK21
     refine regt 11 mixed kQ hF hS (sq rfl (q_move rfl) <|
       sq rfl (q_nilCheck rfl) <|
       sq rfl (q_fieldAddr ty66 rfl rfl (s' := 0) kQ) <|
       sq rfl (q_ld_blk1 ty28 1 rfl rfl rfl rfl) <|
       sq rfl (q_move rfl) <|
       sq rfl (q_move rfl) <|
       sq rfl (q_addi rfl rfl (by omega)) <|
       sq rfl (q_move rfl) <|
       sq rfl (q_move rfl) <|
       sq rfl (q_idx_row ty22 ty9 0 rfl rfl rfl (by omega)) <|
       sq rfl (q_ld_rowM ty9 0 default rfl rfl bQ rfl) <|
       sq_end) ?_
     clear hF hS; intro a w hF hS
     replace hS := hS.perm (.cons _ (.cons _ (.cons _ (.cons _ (.swap _ _ _)))))
     replace hS := hS.perm (.cons _ (.cons _ (.cons _ (.swap _ _ _))))
     replace hS := hS.perm (.cons _ (.cons _ (.swap _ _ _)))
     replace hS := hS.perm (.cons _ (.swap _ _ _))
     replace hS := hS.perm (.swap _ _ _)
     replace hS := hS.perm (.cons _ (.cons _ (.cons _ (.cons _ (.cons _ (.swap _ _ _))))))
     replace hS := hS.perm (.cons _ (.cons _ (.cons _ (.cons _ (.swap _ _ _)))))
     replace hS := hS.perm (.cons _ (.cons _ (.cons _ (.swap _ _ _))))
     replace hS := hS.perm (.cons _ (.cons _ (.swap _ _ _)))
     replace hS := hS.perm (.cons _ (.swap _ _ _))
     replace hS : St _ (_) (_ :: _ :: _ :: _ :: _ :: _ :: _ :: _) _ := hS
     refine wpl_ef hF hS rfl (ef_callx fn11 rfl (List.Perm.refl _) (by exact (rwrite_ct _ _ _ _  (by first | assumption | exact Dk.ok_step (by assumption) | exact Dk.rst_ok (by assumption) _ _) (S := (Jn.wrN S J.en (Jn.secs J.next t) i).1) (v := v)))) ?_
     clear hF hS; rintro _ _ _ a w ⟨_, _, rfl, rfl, ⟨rfl, rfl, rfl⟩⟩ hF hS
     replace hS : St _ (_) (_ :: _ :: _ :: _ :: _ :: _ :: _ :: _) _ := hS
     refine wpl_sq hF hS (sq rfl (q_assign rfl) <|
       sq_end) ?_
     clear hF hS; intro a w hF hS
     refine wpList_nil ?_
     rw [Int.toNat_natCast, show (default : List UInt8) = [] from rfl] at hF hS
     refine hK21 _ _ ?_
     clear hK21
     refine wp_seq_k ?_; intro K22 hK22
     refine reg hF hS (sq rfl (q_move rfl) <|
       sq rfl (q_nei rfl rfl) <|
       sq_end) ?_
     clear hF hS; intro a w hF hS
     refine hK22 _ _ ?_
     clear hK22
     refine wp_ifn hF rfl (fun hc5 => ?_) (fun hc5 => ?_)
     ·refine wp_seq_k ?_; intro K23 hK23
      refine regl ?_
      refine wpl_sq hF hS (sq rfl (q_move rfl) <|
        sq rfl (q_nilCheck rfl) <|
        sq rfl (q_fieldAddr ty66 rfl rfl (s' := 0) kQ) <|
        sq_end) ?_
      clear hF hS; intro a w hF hS
      refine wpl_ef hF hS rfl (ef_store1 ty4 3 rfl rfl rfl rfl (by simp)) ?_
      clear hF hS; rintro _ _ _ a w ⟨rfl, rfl, rfl⟩ hF hS
      replace hS : St _ (_) (_ :: _ :: _ :: .blk _ _ ([_, _, _, _, _, _, _].set 6 _) :: _ :: _ :: _ :: _) _ := hS
      simp only [List.set_cons_zero, List.set_cons_succ] at hS
      replace hS : St _ (_) (_ :: _ :: _ :: _ :: _ :: _ :: _ :: _) _ := hS
      refine wpList_nil ?_
      refine hK23 _ _ ?_
      clear hK23
      refine wp_seq_k ?_; intro K24 hK24
      refine reg hF hS (sq rfl (q_move rfl) <|
        sq rfl (q_assign rfl) <|
        sq rfl (q_assign rfl) <|
        sq_end) ?_
      clear hF hS; intro a w hF hS
      refine hK24 _ _ ?_
      clear hK24
      refine wp_ret ?_
      replace hS := hS.perm (.cons _ (.cons _ (.swap _ _ _)))
      replace hS := hS.perm (.cons _ (.swap _ _ _))
      replace hS := hS.perm (.swap _ _ _)
      replace hS := hS.perm (.cons _ (.cons _ (.cons _ (.swap _ _ _))))
      replace hS := hS.perm (.cons _ (.cons _ (.swap _ _ _)))
      replace hS := hS.perm (.cons _ (.swap _ _ _))
      replace hS := hS.perm (.cons _ (.cons _ (.cons _ (.cons _ (.swap _ _ _)))))
      replace hS := hS.perm (.cons _ (.cons _ (.cons _ (.swap _ _ _))))
      replace hS := hS.perm (.cons _ (.cons _ (.swap _ _ _)))
      replace hS := hS.perm (.cons _ (.cons _ (.cons _ (.cons _ (.cons _ (.swap _ _ _))))))
      replace hS := hS.perm (.cons _ (.cons _ (.cons _ (.cons _ (.swap _ _ _)))))
      replace hS := hS.perm (.cons _ (.cons _ (.cons _ (.swap _ _ _))))
      exact fn_retx (rs := [.tmp 4, .tmp 5]) rfl hF hS (vs := [_, _]) ⟨rfl, rfl, trivial⟩ [] [_, _, _, _, _, _] sQ (sQ.n.k.k.k.k.k.k) (Jn.rjr_of (B := RRB bd v) (W := RRW v) (J := Jn.J2 J t) (S := (Dk.write (Jn.wrN S J.en (Jn.secs J.next t) i).1 (J.en + i) ((Jn.secs J.next t).getD i [])).1) ⟨rfl, rfl, _, _, _, _, rfl, ⟨_, _, _, Jn.wf_2 hVf2, rfl, rfl, rfl, rfl⟩⟩ (by rw [Jn.app_4 hbl hln hrm (by rw [Jn.wfr_1 (by omega) hw0 hc5]; first | exact hc5 | exact hc6 | exact hc8), Jn.wfr_1 (by omega) hw0 hc5]) (by rw [Jn.app_4 hbl hln hrm (by rw [Jn.wfr_1 (by omega) hw0 hc5]; first | exact hc5 | exact hc6 | exact hc8), Jn.wfr_1 (by omega) hw0 hc5]) (by rw [Jn.app_4 hbl hln hrm (by rw [Jn.wfr_1 (by omega) hw0 hc5]; first | exact hc5 | exact hc6 | exact hc8), Jn.wfr_1 (by omega) hw0 hc5]))
     ·refine wp_skip ?_
      refine hK20 _ _ ?_
      clear hK20
      refine reg hF hS (sq rfl (q_move rfl) <|
        sq rfl (q_addi rfl rfl (by omega)) <|
        sq rfl (q_assign rfl) <|
        sq_end) ?_
      clear hF hS; intro a w hF hS
      replace hS := hS.perm (.cons _ (.swap _ _ _))
      replace hS := hS.perm (.swap _ _ _)
      replace hS := hS.perm (.cons _ (.cons _ (.swap _ _ _)))
      replace hS := hS.perm (.cons _ (.swap _ _ _))
      replace hS := hS.perm (.cons _ (.cons _ (.cons _ (.swap _ _ _))))
      replace hS := hS.perm (.cons _ (.cons _ (.swap _ _ _)))
      replace hS := hS.perm (.cons _ (.cons _ (.cons _ (.cons _ (.swap _ _ _)))))
      replace hS := hS.perm (.cons _ (.cons _ (.cons _ (.swap _ _ _))))
      replace hS := hS.perm (.cons _ (.cons _ (.cons _ (.cons _ (.cons _ (.swap _ _ _))))))
      replace hS := hS.perm (.cons _ (.cons _ (.cons _ (.cons _ (.swap _ _ _)))))
      replace hS := hS.keep sQ sQ
      refine ⟨(i + 1), ?_, ?_, hF.sub ⟨rfl, rfl, rfl, rfl, rfl, rfl, trivial⟩, ?_⟩
      ·(try dsimp only); omega
      ·exact ⟨by omega, by rw [Jn.wrN_succ hw0]; omega⟩
      ·rw [Jn.wrN_succ hw0]; exact hS
    ·obtain rfl : i = (Jn.secs J.next t).length := by omega
     have hOe := Jn.wrN_ok hO J.en (Jn.secs J.next t) (Jn.secs J.next t).length
     refine wp_exit ?_
     refine hK16 _ _ ?_
     clear hK16
     refine wp_seq_k ?_; intro K25 hK25
     refine regl ?_
     refine wpl_sq hF hS (sq rfl (q_move rfl) <|
       sq rfl (q_nilCheck rfl) <|
       sq rfl (q_fieldAddr ty66 rfl rfl (s' := 0) kQ) <|
       sq rfl (q_ld_blk1 ty28 1 rfl rfl rfl rfl) <|
       sq_end) ?_
     clear hF hS; intro a w hF hS
     replace hS := hS.perm (.cons _ (.cons _ (.cons _ (.cons _ (.swap _ _ _)))))
     replace hS := hS.perm (.cons _ (.cons _ (.cons _ (.swap _ _ _))))
     replace hS := hS.perm (.cons _ (.cons _ (.swap _ _ _)))
     replace hS := hS.perm (.cons _ (.swap _ _ _))
     replace hS := hS.perm (.swap _ _ _)
     replace hS := hS.perm (.cons _ (.cons _ (.cons _ (.cons _ (.cons _ (.swap _ _ _))))))
     replace hS := hS.perm (.cons _ (.cons _ (.cons _ (.cons _ (.swap _ _ _)))))
     replace hS := hS.perm (.cons _ (.cons _ (.cons _ (.swap _ _ _))))
     replace hS := hS.perm (.cons _ (.cons _ (.swap _ _ _)))
     replace hS := hS.perm (.cons _ (.swap _ _ _))
     replace hS : St _ (_) (_ :: _ :: _ :: _ :: _ :: _ :: _ :: _) _ := hS
     refine wpl_ef hF hS rfl (ef_callx fn66 rfl (List.Perm.refl _) (by exact (rflush_ct _ _  (by first | assumption | exact Dk.ok_step (by assumption) | exact Dk.rst_ok (by assumption) _ _) (S := (Jn.wrN S J.en (Jn.secs J.next t) (Jn.secs J.next t).length).1) (v := v)))) ?_
     clear hF hS; rintro _ _ _ a w ⟨_, _, rfl, rfl, ⟨rfl, rfl, rfl⟩⟩ hF hS
     replace hS : St _ (_) (_ :: _ :: _ :: _ :: _ :: _ :: _ :: _) _ := hS
     refine wpl_sq hF hS (sq rfl (q_assign rfl) <|
       sq_end) ?_
     clear hF hS; intro a w hF hS
     refine wpList_nil ?_
     refine hK25 _ _ ?_
     clear hK25
     refine wp_seq_k ?_; intro K26 hK26
     refine wp_seq_k ?_; intro K27 hK27
     refine reg hF hS (sq rfl (q_move rfl) <|
       sq rfl (q_nei rfl rfl) <|
       sq_end) ?_
     clear hF hS; intro a w hF hS
     refine hK27 _ _ ?_
     clear hK27
     refine wp_ifn hF rfl (fun hc6 => ?_) (fun hc6 => ?_)
     ·refine wp_seq_k ?_; intro K28 hK28
      refine regl ?_
      refine wpl_sq hF hS (sq rfl (q_move rfl) <|
        sq rfl (q_nilCheck rfl) <|
        sq rfl (q_fieldAddr ty66 rfl rfl (s' := 0) kQ) <|
        sq_end) ?_
      clear hF hS; intro a w hF hS
      refine wpl_ef hF hS rfl (ef_store1 ty4 3 rfl rfl rfl rfl (by simp)) ?_
      clear hF hS; rintro _ _ _ a w ⟨rfl, rfl, rfl⟩ hF hS
      replace hS : St _ (_) (_ :: _ :: _ :: .blk _ _ ([_, _, _, _, _, _, _].set 6 _) :: _ :: _ :: _ :: _) _ := hS
      simp only [List.set_cons_zero, List.set_cons_succ] at hS
      replace hS : St _ (_) (_ :: _ :: _ :: _ :: _ :: _ :: _ :: _) _ := hS
      refine wpList_nil ?_
      refine hK28 _ _ ?_
      clear hK28
      refine wp_seq_k ?_; intro K29 hK29
      refine reg hF hS (sq rfl (q_move rfl) <|
        sq rfl (q_assign rfl) <|
        sq rfl (q_assign rfl) <|
        sq_end) ?_
      clear hF hS; intro a w hF hS
      refine hK29 _ _ ?_
      clear hK29
      refine wp_ret ?_
      replace hS := hS.perm (.cons _ (.cons _ (.swap _ _ _)))
      replace hS := hS.perm (.cons _ (.swap _ _ _))
      replace hS := hS.perm (.swap _ _ _)
      replace hS := hS.perm (.cons _ (.cons _ (.cons _ (.swap _ _ _))))
      replace hS := hS.perm (.cons _ (.cons _ (.swap _ _ _)))
      replace hS := hS.perm (.cons _ (.swap _ _ _))
      replace hS := hS.perm (.cons _ (.cons _ (.cons _ (.cons _ (.swap _ _ _)))))
      replace hS := hS.perm (.cons _ (.cons _ (.cons _ (.swap _ _ _))))
      replace hS := hS.perm (.cons _ (.cons _ (.swap _ _ _)))
      replace hS := hS.perm (.cons _ (.cons _ (.cons _ (.cons _ (.cons _ (.swap _ _ _))))))
      replace hS := hS.perm (.cons _ (.cons _ (.cons _ (.cons _ (.swap _ _ _)))))
      replace hS := hS.perm (.cons _ (.cons _ (.cons _ (.swap _ _ _))))
      exact fn_retx (rs := [.tmp 4, .tmp 5]) rfl hF hS (vs := [_, _]) ⟨rfl, rfl, trivial⟩ [] [_, _, _, _, _, _] sQ (sQ.n.k.k.k.k.k.k) (Jn.rjr_of (B := RRB bd v) (W := RRW v) (J := Jn.J2 J t) (S := (Dk.flush (Jn.wrN S J.en (Jn.secs J.next t) (Jn.secs J.next t).length).1).1) ⟨rfl, rfl, _, _, _, _, rfl, ⟨_, _, _, Jn.wf_2 hVf2, rfl, rfl, rfl, rfl⟩⟩ (by rw [Jn.app_4 hbl hln hrm (by rw [Jn.wfr_2 hw0 hc6]; first | exact hc5 | exact hc6 | exact hc8), Jn.wfr_2 hw0 hc6]) (by rw [Jn.app_4 hbl hln hrm (by rw [Jn.wfr_2 hw0 hc6]; first | exact hc5 | exact hc6 | exact hc8), Jn.wfr_2 hw0 hc6]) (by rw [Jn.app_4 hbl hln hrm (by rw [Jn.wfr_2 hw0 hc6]; first | exact hc5 | exact hc6 | exact hc8), Jn.wfr_2 hw0 hc6]))
     ·have hOf := Dk.ok_flush hOe
      refine wp_skip ?_
      refine hK26 _ _ ?_
      clear hK26
      refine wp_seq_k ?_; intro K30 hK30
      refine reg hF hS (sq rfl (q_assign rfl) <|
        sq_end) ?_
      clear hF hS; intro a w hF hS
      refine hK30 _ _ ?_
      clear hK30
      refine wp_seq_k ?_; intro K31 hK31
      refine wp_seq_k ?_; intro K32 hK32
      refine reg hF hS (sq rfl (q_assign rfl) <|
        sq_end) ?_
      clear hF hS; intro a w hF hS
      refine hK32 _ _ ?_
      clear hK32
      refine wp_block ?_
      obtain ⟨hs0, hhs0, hS⟩ : ∃ h, h = _ ∧ St _ _ h _ := ⟨_, rfl, hS⟩
      refine wp_loopx (γ := Nat) (0) (fun (i : Nat) => [(14, vi (i : Int)), (13, .bool (Jn.rdN (Dk.flush (Jn.wrN S J.en (Jn.secs J.next t) (Jn.secs J.next t).length).1).1 J.en (Jn.secs J.next t) i).2)]) [(0, _), (1, _), (6, _), (7, _), (8, _)] (fun (i : Nat) => ((hs0.set 0 (RRB bd v (Dk.flush (Jn.wrN S J.en (Jn.secs J.next t) (Jn.secs J.next t).length).1).1)).set 1 (RRW v (Dk.flush (Jn.wrN S J.en (Jn.secs J.next t) (Jn.secs J.next t).length).1).1))) (fun (i : Nat) => i ≤ (Jn.secs J.next t).length ∧ (Jn.rdN (Dk.flush (Jn.wrN S J.en (Jn.secs J.next t) (Jn.secs J.next t).length).1).1 J.en (Jn.secs J.next t) i).1 = 0) (fun (i : Nat) => (Jn.secs J.next t).length - i) (hF.sub ⟨rfl, rfl, rfl, rfl, rfl, rfl, rfl, trivial⟩) (by subst hhs0; exact hS) (by exact ⟨Nat.zero_le _, rfl⟩) ?_
      clear hF hS; rintro i a w hfact hF hS
      subst hhs0; (try dsimp only at hfact); (try dsimp only at hF); (try dsimp only at hS)
      obtain ⟨hi0, hr0⟩ := hfact
      replace hS : St _ (_) (_ :: _ :: _ :: _ :: _ :: _ :: _ :: _) _ := hS
      refine wp_seq_k ?_; intro K33 hK33
      refine wp_seq_k ?_; intro K34 hK34
      refine reg hF hS (sq rfl (q_move rfl) <|
        sq rfl (q_move rfl) <|
        sq rfl (q_len_row ty22 2 rfl rfl) <|
        sq rfl (q_lti rfl rfl) <|
        sq_end) ?_
      clear hF hS; intro a w hF hS
      refine hK34 _ _ ?_
      clear hK34
      refine wp_ifd hF rfl (fun hc7 => ?_) (fun hc7 => ?_)
      ·refine wp_skip ?_
       refine hK33 _ _ ?_
       clear hK33
       refine wp_seq_k ?_; intro K35 hK35
       refine wp_block ?_
       refine wp_seq_k ?_; intro K36 hK36
       refine regl ?_
       refine wpl_sq hF hS (sq rfl (q_move rfl) <|
         sq rfl (q_nilCheck rfl) <|
         sq rfl (q_fieldAddr ty66 rfl rfl (s' := 0) kQ) <|
         sq rfl (q_ld_blk1 ty28 3 rfl rfl rfl rfl) <|
         sq rfl (q_move rfl) <|
         sq rfl (q_move rfl) <|
         sq rfl (q_addi rfl rfl (by omega)) <|
         sq_end) ?_
       clear hF hS; intro a w hF hS
       refine wpl_ef hF hS rfl (ef_callx fn53 rfl (List.Perm.refl _) (by exact (rread_ct _ _ _  (by first | assumption | exact Dk.ok_step (by assumption) | exact Dk.rst_ok (by assumption) _ _) (S := (Dk.flush (Jn.wrN S J.en (Jn.secs J.next t) (Jn.secs J.next t).length).1).1) (v := v)))) ?_
       clear hF hS; rintro _ _ _ a w ⟨_, _, rfl, rfl, ⟨rfl, rfl, rfl⟩⟩ hF hS
       replace hS : St _ (_) (_ :: _ :: _ :: _ :: _ :: _ :: _ :: _) _ := hS
       refine wpl_sq hF hS (sq rfl (q_move rfl) <|
         sq rfl (q_extract rfl rfl) <|
         sq rfl (q_extract rfl rfl) <|
         sq rfl (q_assign rfl) <|
         sq rfl (q_assign rfl) <|
         sq_end) ?_
       clear hF hS; intro a w hF hS
       refine wpList_nil ?_
       refine hK36 _ _ ?_
       clear hK36
       refine wp_seq_k ?_; intro K37 hK37
       refine wp_seq_k ?_; intro K38 hK38
       refine reg hF hS (sq rfl (q_move rfl) <|
         sq rfl (q_nei rfl rfl) <|
         sq_end) ?_
       clear hF hS; intro a w hF hS
       refine hK38 _ _ ?_
       clear hK38
       refine wp_ifn hF rfl (fun hc8 => ?_) (fun hc8 => ?_)
       ·refine wp_seq_k ?_; intro K39 hK39
        refine regl ?_
        refine wpl_sq hF hS (sq rfl (q_move rfl) <|
          sq rfl (q_nilCheck rfl) <|
          sq rfl (q_fieldAddr ty66 rfl rfl (s' := 0) kQ) <|
          sq_end) ?_
        clear hF hS; intro a w hF hS
        refine wpl_ef hF hS rfl (ef_store1 ty4 3 rfl rfl rfl rfl (by simp)) ?_
        clear hF hS; rintro _ _ _ a w ⟨rfl, rfl, rfl⟩ hF hS
        replace hS : St _ (_) (_ :: _ :: _ :: .blk _ _ ([_, _, _, _, _, _, _].set 6 _) :: _ :: _ :: _ :: _) _ := hS
        simp only [List.set_cons_zero, List.set_cons_succ] at hS
        replace hS : St _ (_) (_ :: _ :: _ :: _ :: _ :: _ :: _ :: _) _ := hS
        refine wpList_nil ?_
        refine hK39 _ _ ?_
        clear hK39
        refine wp_seq_k ?_; intro K40 hK40
        refine reg hF hS (sq rfl (q_move rfl) <|
          sq rfl (q_assign rfl) <|
          sq rfl (q_assign rfl) <|
          sq_end) ?_
        clear hF hS; intro a w hF hS
        refine hK40 _ _ ?_
        clear hK40
        refine wp_ret ?_
        replace hS := hS.perm (.cons _ (.cons _ (.swap _ _ _)))
        replace hS := hS.perm (.cons _ (.swap _ _ _))
        replace hS := hS.perm (.swap _ _ _)
        replace hS := hS.perm (.cons _ (.cons _ (.cons _ (.swap _ _ _))))
        replace hS := hS.perm (.cons _ (.cons _ (.swap _ _ _)))
        replace hS := hS.perm (.cons _ (.swap _ _ _))
        replace hS := hS.perm (.cons _ (.cons _ (.cons _ (.cons _ (.swap _ _ _)))))
        replace hS := hS.perm (.cons _ (.cons _ (.cons _ (.swap _ _ _))))
        replace hS := hS.perm (.cons _ (.cons _ (.swap _ _ _)))
        replace hS := hS.perm (.cons _ (.cons _ (.cons _ (.cons _ (.cons _ (.swap _ _ _))))))
        replace hS := hS.perm (.cons _ (.cons _ (.cons _ (.cons _ (.swap _ _ _)))))
        replace hS := hS.perm (.cons _ (.cons _ (.cons _ (.swap _ _ _))))
        exact fn_retx (rs := [.tmp 4, .tmp 5]) rfl hF hS (vs := [_, _]) ⟨rfl, rfl, trivial⟩ [] [_, _, _, _, _, _] sQ (sQ.n.k.k.k.k.k.k) (Jn.rjr_of (B := RRB bd v) (W := RRW v) (J := Jn.J2 J t) (S := (Dk.flush (Jn.wrN S J.en (Jn.secs J.next t) (Jn.secs J.next t).length).1).1) ⟨rfl, rfl, _, _, _, _, rfl, ⟨_, _, _, Jn.wf_2 hVf2, rfl, rfl, rfl, rfl⟩⟩ (by rw [Jn.app_4 hbl hln hrm (by rw [Jn.wfr_3 rfl (by omega) hw0 (by omega) hr0 hc8]; first | exact hc5 | exact hc6 | exact hc8), Jn.wfr_3 rfl (by omega) hw0 (by omega) hr0 hc8]) (by rw [Jn.app_4 hbl hln hrm (by rw [Jn.wfr_3 rfl (by omega) hw0 (by omega) hr0 hc8]; first | exact hc5 | exact hc6 | exact hc8), Jn.wfr_3 rfl (by omega) hw0 (by omega) hr0 hc8]) (by rw [Jn.app_4 hbl hln hrm (by rw [Jn.wfr_3 rfl (by omega) hw0 (by omega) hr0 hc8]; first | exact hc5 | exact hc6 | exact hc8), Jn.wfr_3 rfl (by omega) hw0 (by omega) hr0 hc8]))
       ·refine wp_skip ?_
        refine hK37 _ _ ?_
        clear hK37
        refine regl ?_
        refine wpl_sq hF hS (sq rfl (q_move rfl) <|
          sq rfl (q_move rfl) <|
          sq_end) ?_
        clear hF hS; intro a w hF hS
        refine wpl_and 1 122 6 hF hS rfl rfl rfl rfl rfl (fun hg => have hg := hg; sq_go 122 rfl rfl rfl (q_move rfl) <|
          sq_go 122 rfl rfl rfl (q_move rfl) <|
          sq_go 122 rfl rfl rfl (q_move rfl) <|
          sq_go 122 rfl rfl rfl (q_idx_row ty22 ty9 2 rfl rfl rfl (by omega)) <|
          sq_go 122 rfl rfl rfl (q_ld_rowM ty9 2 default rfl rfl bQ rfl) <|
          sq_go 122 rfl rfl rfl (q_eqs rfl rfl) <|
          sq_end) rfl rfl ?_
        clear hF hS; intro a w hF hS
        refine wpl_sq hF hS (sq rfl (q_assign rfl) <|
          sq_end) ?_
        clear hF hS; intro a w hF hS
        refine wpList_nil ?_
        rw [Int.toNat_natCast, show (default : List UInt8) = [] from rfl] at hF
        refine hK35 _ _ ?_
        clear hK35
        refine reg hF hS (sq rfl (q_move rfl) <|
          sq rfl (q_addi rfl rfl (by omega)) <|
          sq rfl (q_assign rfl) <|
          sq_end) ?_
        clear hF hS; intro a w hF hS
        refine ⟨(i + 1), ?_, ?_, hF.sub ⟨rfl, (by show some (Value.bool _) = some (Value.bool _); rw [Jn.rdN_succ hr0 (by omega)]; dsimp only; rw [show decide ((Jn.secs J.next t).getD i [] = (Dk.read (Dk.flush (Jn.wrN S J.en (Jn.secs J.next t) (Jn.secs J.next t).length).1).1 (J.en + i)).1) = decide ((Dk.read (Dk.flush (Jn.wrN S J.en (Jn.secs J.next t) (Jn.secs J.next t).length).1).1 (J.en + i)).1 = (Jn.secs J.next t).getD i []) from decide_eq_decide.2 eq_comm]), rfl, rfl, rfl, rfl, rfl, trivial⟩, ?_⟩
        ·(try dsimp only); omega
        ·exact ⟨by omega, by rw [Jn.rdN_succ hr0 (by omega)]⟩
        ·exact hS
      ·obtain rfl : i = (Jn.secs J.next t).length := by omega
       refine wp_exit ?_
       refine hK31 _ _ ?_
       clear hK31
       refine wp_seq_k ?_; intro K41 hK41
       refine wp_seq_k ?_; intro K42 hK42
       refine reg hF hS (sq rfl (q_move rfl) <|
         sq rfl (q_not rfl) <|
         sq_end) ?_
       clear hF hS; intro a w hF hS
       refine hK42 _ _ ?_
       clear hK42
       refine wp_if hF rfl (fun hc9 => ?_) (fun hc9 => ?_)
       ·refine wp_seq_k ?_; intro K43 hK43
        refine reg hF hS (sq rfl (q_assign rfl) <|
          sq rfl (q_assign rfl) <|
          sq_end) ?_
        clear hF hS; intro a w hF hS
        refine hK43 _ _ ?_
        clear hK43
        refine wp_ret ?_
        replace hS := hS.perm (.cons _ (.cons _ (.swap _ _ _)))
        replace hS := hS.perm (.cons _ (.swap _ _ _))
        replace hS := hS.perm (.swap _ _ _)
        replace hS := hS.perm (.cons _ (.cons _ (.cons _ (.swap _ _ _))))
        replace hS := hS.perm (.cons _ (.cons _ (.swap _ _ _)))
        replace hS := hS.perm (.cons _ (.swap _ _ _))
        replace hS := hS.perm (.cons _ (.cons _ (.cons _ (.cons _ (.swap _ _ _)))))
        replace hS := hS.perm (.cons _ (.cons _ (.cons _ (.swap _ _ _))))
        replace hS := hS.perm (.cons _ (.cons _ (.swap _ _ _)))
        replace hS := hS.perm (.cons _ (.cons _ (.cons _ (.cons _ (.cons _ (.swap _ _ _))))))
        replace hS := hS.perm (.cons _ (.cons _ (.cons _ (.cons _ (.swap _ _ _)))))
        replace hS := hS.perm (.cons _ (.cons _ (.cons _ (.swap _ _ _))))
        exact fn_retx (rs := [.tmp 4, .tmp 5]) rfl hF hS (vs := [_, _]) ⟨rfl, rfl, trivial⟩ [] [_, _, _, _, _, _] sQ (sQ.n.k.k.k.k.k.k) (Jn.rjr_of (B := RRB bd v) (W := RRW v) (J := Jn.J1 J t) (S := (Dk.flush (Jn.wrN S J.en (Jn.secs J.next t) (Jn.secs J.next t).length).1).1) ⟨rfl, rfl, _, _, _, _, rfl, ⟨_, _, _, hVf2, rfl, rfl, rfl, rfl⟩⟩ (by rw [Jn.app_5 hbl hln hrm (by rw [Jn.wfr_4 rfl hw0 (by omega) hr0]) (by rw [Jn.wfr_4 rfl hw0 (by omega) hr0]; simpa using hc9), Jn.wfr_4 rfl hw0 (by omega) hr0]) (by rw [Jn.app_5 hbl hln hrm (by rw [Jn.wfr_4 rfl hw0 (by omega) hr0]) (by rw [Jn.wfr_4 rfl hw0 (by omega) hr0]; simpa using hc9), Jn.wfr_4 rfl hw0 (by omega) hr0]) (by rw [Jn.app_5 hbl hln hrm (by rw [Jn.wfr_4 rfl hw0 (by omega) hr0]) (by rw [Jn.wfr_4 rfl hw0 (by omega) hr0]; simpa using hc9), Jn.wfr_4 rfl hw0 (by omega) hr0]))
       ·refine wp_skip ?_
        refine hK41 _ _ ?_
        clear hK41
        refine wp_seq_k ?_; intro K44 hK44
        refine regl ?_
        refine wpl_sq hF hS (sq rfl (q_move rfl) <|
          sq rfl (q_move rfl) <|
          sq rfl (q_nilCheck rfl) <|
          sq rfl (q_fieldAddr ty66 rfl rfl (s' := 0) kQ) <|
          sq rfl (q_ld_blk1 ty51 3 rfl rfl rfl rfl) <|
          sq rfl (q_move rfl) <|
          sq_end) ?_
        clear hF hS; intro a w hF hS
        refine wpl_ef hF hS rfl (ef_bsliceA ty51 ty3 rfl rfl oQ (by decide) rfl rfl) ?_
        clear hF hS; rintro v13 _ _ a w ⟨rfl, rfl⟩ hF hS
        replace hS : St _ (_) (_ :: _ :: _ :: _ :: _ :: _ :: _ :: _ :: _) _ := hS
        refine wpl_ef hF hS rfl (ef_append ty51 ty3 5 rfl rfl rfl (src_row ty51 (k := 0) rfl oQ) bQ rfl (by decide)) ?_
        clear hF hS; rintro v15 _ _ a w ⟨rfl, rfl⟩ hF hS
        replace hS : St _ (_) (_ :: _ :: _ :: _ :: _ :: _ :: _ :: _ :: _) _ := hS
        refine wpl_sq hF hS (sq rfl (q_nilCheck rfl) <|
          sq rfl (q_fieldAddr ty66 rfl rfl (s' := 0) kQ) <|
          sq_end) ?_
        clear hF hS; intro a w hF hS
        refine wpl_ef hF hS rfl (ef_store1 ty51 4 rfl rfl rfl (row_one (hS.own _ (List.mem_of_getElem? (i := 5) rfl)).1) (by simp)) ?_
        clear hF hS; rintro _ _ _ a w ⟨rfl, rfl, rfl⟩ hF hS
        replace hS : St _ (_) (_ :: _ :: _ :: _ :: .blk _ _ ([_, _, _, _, _, _, _].set 1 _) :: _ :: _ :: _ :: _) _ := hS
        simp only [List.set_cons_zero, List.set_cons_succ] at hS
        replace hS : St _ (_) (_ :: _ :: _ :: _ :: _ :: _ :: _ :: _ :: _) _ := hS
        refine wpList_nil ?_
        refine hK44 _ _ ?_
        clear hK44
        refine wp_seq_k ?_; intro K45 hK45
        refine regl ?_
        refine wpl_sq hF hS (sq rfl (q_move rfl) <|
          sq rfl (q_move rfl) <|
          sq rfl (q_nilCheck rfl) <|
          sq rfl (q_fieldAddr ty66 rfl rfl (s' := 0) kQ) <|
          sq rfl (q_ld_blk1 ty22 4 rfl rfl rfl rfl) <|
          sq rfl (q_move rfl) <|
          sq_end) ?_
        clear hF hS; intro a w hF hS
        refine wpl_ef hF hS rfl (ef_bsliceA ty22 ty9 rfl rfl oQ (by decide) rfl rfl) ?_
        clear hF hS; rintro v16 _ _ a w ⟨rfl, rfl⟩ hF hS
        replace hS : St _ (_) (_ :: _ :: _ :: _ :: _ :: _ :: _ :: _ :: _ :: _) _ := hS
        refine wpl_ef hF hS rfl (ef_append ty22 ty9 8 rfl rfl rfl (src_row ty22 (k := 0) rfl oQ) bQ rfl (by decide)) ?_
        clear hF hS; rintro v18 _ _ a w ⟨rfl, rfl⟩ hF hS
        replace hS : St _ (_) (_ :: _ :: _ :: _ :: _ :: _ :: _ :: _ :: _ :: _) _ := hS
        refine wpl_sq hF hS (sq rfl (q_nilCheck rfl) <|
          sq rfl (q_fieldAddr ty66 rfl rfl (s' := 0) kQ) <|
          sq_end) ?_
        clear hF hS; intro a w hF hS
        refine wpl_ef hF hS rfl (ef_store1 ty22 5 rfl rfl rfl (row_one (hS.own _ (List.mem_of_getElem? (i := 8) rfl)).1) (by simp)) ?_
        clear hF hS; rintro _ _ _ a w ⟨rfl, rfl, rfl⟩ hF hS
        replace hS : St _ (_) (_ :: _ :: _ :: _ :: _ :: .blk _ _ ([_, _, _, _, _, _, _].set 2 _) :: _ :: _ :: _ :: _) _ := hS
        simp only [List.set_cons_zero, List.set_cons_succ] at hS
        replace hS : St _ (_) (_ :: _ :: _ :: _ :: _ :: _ :: _ :: _ :: _ :: _) _ := hS
        refine wpList_nil ?_
        refine hK45 _ _ ?_
        clear hK45
        refine wp_seq_k ?_; intro K46 hK46
        refine reg hF hS (sq rfl (q_move rfl) <|
          sq rfl (q_assign rfl) <|
          sq rfl (q_assign rfl) <|
          sq_end) ?_
        clear hF hS; intro a w hF hS
        refine hK46 _ _ ?_
        clear hK46
        refine wp_ret ?_
        replace hS := hS.perm (.cons _ (.cons _ (.cons _ (.cons _ (.swap _ _ _)))))
        replace hS := hS.perm (.cons _ (.cons _ (.cons _ (.swap _ _ _))))
        replace hS := hS.perm (.cons _ (.cons _ (.swap _ _ _)))
        replace hS := hS.perm (.cons _ (.swap _ _ _))
        replace hS := hS.perm (.swap _ _ _)
        replace hS := hS.perm (.cons _ (.cons _ (.cons _ (.cons _ (.cons _ (.swap _ _ _))))))
        replace hS := hS.perm (.cons _ (.cons _ (.cons _ (.cons _ (.swap _ _ _)))))
        replace hS := hS.perm (.cons _ (.cons _ (.cons _ (.swap _ _ _))))
        replace hS := hS.perm (.cons _ (.cons _ (.swap _ _ _)))
        replace hS := hS.perm (.cons _ (.swap _ _ _))
        replace hS := hS.perm (.cons _ (.cons _ (.cons _ (.cons _ (.cons _ (.cons _ (.swap _ _ _)))))))
        replace hS := hS.perm (.cons _ (.cons _ (.cons _ (.cons _ (.cons _ (.swap _ _ _))))))
        replace hS := hS.perm (.cons _ (.cons _ (.cons _ (.cons _ (.swap _ _ _)))))
        replace hS := hS.perm (.cons _ (.cons _ (.cons _ (.swap _ _ _))))
        replace hS := hS.perm (.cons _ (.cons _ (.swap _ _ _)))
        replace hS := hS.perm (.cons _ (.cons _ (.cons _ (.cons _ (.cons _ (.cons _ (.cons _ (.swap _ _ _))))))))
        replace hS := hS.perm (.cons _ (.cons _ (.cons _ (.cons _ (.cons _ (.cons _ (.swap _ _ _)))))))
        replace hS := hS.perm (.cons _ (.cons _ (.cons _ (.cons _ (.cons _ (.swap _ _ _))))))
        replace hS := hS.perm (.cons _ (.cons _ (.cons _ (.cons _ (.swap _ _ _)))))
        replace hS := hS.perm (.cons _ (.cons _ (.cons _ (.swap _ _ _))))
        replace hS := hS.perm (.cons _ (.cons _ (.cons _ (.cons _ (.cons _ (.swap _ _ _))))))
        replace hS := hS.perm (.cons _ (.cons _ (.cons _ (.cons _ (.swap _ _ _)))))
        replace hS := hS.perm (.cons _ (.cons _ (.cons _ (.cons _ (.cons _ (.cons _ (.swap _ _ _)))))))
        replace hS := hS.perm (.cons _ (.cons _ (.cons _ (.cons _ (.cons _ (.swap _ _ _))))))
        exact fn_retx (rs := [.tmp 4, .tmp 5]) rfl hF hS (vs := [_, _]) ⟨rfl, rfl, trivial⟩ [] [_, _, _, _, _, _] sQ (sQ.n.n.n.k.k.k.k.k.k) (Jn.rjr_of (B := RRB bd v) (W := RRW v) (J := Jn.J3 J t) (S := (Dk.flush (Jn.wrN S J.en (Jn.secs J.next t) (Jn.secs J.next t).length).1).1) ⟨rfl, rfl, _, _, _, _, rfl, ⟨_, _, _, Jn.wf_3 hVf hVf2 hln, rfl, (by simp [Jn.J3, Jn.J1]), rfl, (by simp [Jn.J3, Jn.J1])⟩⟩ (by rw [Jn.app_6 hbl hln hrm (by rw [Jn.wfr_4 rfl hw0 (by omega) hr0]) (by rw [Jn.wfr_4 rfl hw0 (by omega) hr0]; simpa using hc9), Jn.wfr_4 rfl hw0 (by omega) hr0]) (by rw [Jn.app_6 hbl hln hrm (by rw [Jn.wfr_4 rfl hw0 (by omega) hr0]) (by rw [Jn.wfr_4 rfl hw0 (by omega) hr0]; simpa using hc9), Jn.wfr_4 rfl hw0 (by omega) hr0]) (by rw [Jn.app_6 hbl hln hrm (by rw [Jn.wfr_4 rfl hw0 (by omega) hr0]) (by rw [Jn.wfr_4 rfl hw0 (by omega) hr0]; simpa using hc9), Jn.wfr_4 rfl hw0 (by omega) hr0]))
end Go.Proofs.YtibbhobfdbfkkaaGreatDoor
