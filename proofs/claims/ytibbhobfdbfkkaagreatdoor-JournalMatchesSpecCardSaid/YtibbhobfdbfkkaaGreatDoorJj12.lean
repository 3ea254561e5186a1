/- A text of a proof over this seat: walks over the program's functions and the plain laws that they need. -/
import Derived.Test.YtibbhobfdbfkkaaGreatDoorJj11
import Derived.Test.YtibbhobfdbfkkaaGreatDoorJnA
import Derived.Test.YtibbhobfdbfkkaaGreatDoorFwD
import Derived.Test.YtibbhobfdbfkkaaGreatDoorFwB
set_option linter.all false
namespace Go.Proofs.YtibbhobfdbfkkaaGreatDoor
open Go.Fw
theorem ty100 : Tf Tryz.prog 100 (.slice 102) 1 24 (Value.slice none 0 0) := ⟨Tryz.underlying100, by kernel_rfl⟩
theorem fn54 : FnOk Tryz.prog 54 := ⟨_, Tryz.func54, rfl, by kernel_rfl⟩
theorem fn55 : FnOk Tryz.prog 55 := ⟨_, Tryz.func55, rfl, by kernel_rfl⟩

attribute [local irreducible] Sha.sum Jn.good Jn.hd Jn.lb Jn.cnt Jn.unp Jn.recd Jn.wh Jn.tx9

set_option maxRecDepth 4000 in
set_option maxHeartbeats 2000000 in
theorem hopen_ct (bd : Nat) (v : Value) (S : Dk.Dsk) (hof : S.off = false) (w0 : World) (zsr : List PH) {fz0 : Nat × Nat} {bt0 : TypeId} (hg0 : w0.heap[0]? = some (.cells (Sha.kc.map vw).toArray bt0 fz0)) (hO : Dk.Ok S) : Cx Tryz.prog 13 [.pointer (some ⟨bd, 0, none⟩)] w0 zsr [RRB bd v S, RRW v S] (fun r zs hs => zs = [] ∧ ∃ b q1 q2 q3 q4, r = .tuple [.pointer (some ⟨b, 0, none⟩), vi 0].toArray ∧ hs = [q1, q2, q3, q4, RRB bd v S, RRW v S] ∧ HJ b bd (Jn.opn S) q1 q2 q3 q4) := by
 refine fn_enterx Tryz.func13 rfl Tryz.ntmps13 (Nat.le_of_ble_eq_true rfl) fun hsr a w hF hS => ?_
 replace hS : St _ (_) (_ :: _ :: _) _ := hS
 have hlo := hO.lo
 have hhi := hO.hi
 have hrl := Jn.rds_len S
 refine wp_seq_k ?_; intro K1 hK1
 refine reg hF hS (sq rfl (q_assign rfl) <|
   sq rfl (q_assign rfl) <|
   sq_end) ?_
 clear hF hS; intro a w hF hS
 refine hK1 _ _ ?_
 clear hK1
 refine wp_seq_k ?_; intro K2 hK2
 refine regl ?_
 refine wpl_sq hF hS (sq rfl (q_move rfl) <|
   sq rfl (q_buildP (places := [(0, 1), (1, 1), (2, 1), (3, 1), (4, 1), (5, 1), (6, 1)]) (cells := [_, .slice none 0 0, .slice none 0 0, .slice none 0 0, _, .int .i64 0, .bool false]) ty66 kQ rfl (by rfl)) <|
   sq_end) ?_
 clear hF hS; intro a w hF hS
 refine wpl_ef hF hS rfl (ef_boxA rfl) ?_
 clear hF hS; rintro _ _ _ a w ⟨b1, rfl, rfl, rfl⟩ hF hS
 refine wpl_sq hF hS (sq rfl (q_assign rfl) <|
   sq_end) ?_
 clear hF hS; intro a w hF hS
 refine wpList_nil ?_
 replace hS := hS.nilRow 9 1
 replace hS := hS.nilRow 3 1
 replace hS := hS.nilRow 3 1
 replace hS : St _ (_) (_ :: _ :: _ :: _ :: _ :: _ :: _) _ := hS
 refine hK2 _ _ ?_
 clear hK2
 refine wp_seq_k ?_; intro K3 hK3
 refine reg hF hS (sq rfl (q_assign rfl) <|
   sq_end) ?_
 clear hF hS; intro a w hF hS
 replace hS := hS.nilRow 102 5
 replace hS : St _ (_) (_ :: _ :: _ :: _ :: _ :: _ :: _ :: _) _ := hS
 refine hK3 _ _ ?_
 clear hK3
 refine wp_seq_k ?_; intro K4 hK4
 refine wp_seq_k ?_; intro K5 hK5
 refine reg hF hS (sq rfl (q_assign rfl) <|
   sq_end) ?_
 clear hF hS; intro a w hF hS
 refine hK5 _ _ ?_
 clear hK5
 refine wp_block ?_
 obtain ⟨hs0, hhs0, hS⟩ : ∃ h, h = _ ∧ St _ _ h _ := ⟨_, rfl, hS⟩
 refine wp_loopx (γ := Value × Value × Nat) ((Value.slice none 0 0), (Value.slice none 0 0), 0) (fun (gg : Value × Value × Nat) => match gg with | (ub, ul, k) => [(5, ul), (6, vi (k : Int))]) [(0, _), (4, _)] (fun (gg : Value × Value × Nat) => match gg with | (ub, ul, k) => (((hs0.set 4 (.blk b1 66 [.pointer (some ⟨bd, 0, none⟩), (Value.slice none 0 0), (Value.slice none 0 0), ub, vi (Jn.nxN (Jn.rds S) k), vi (Jn.enN (Jn.rds S) k), .bool false])).set 2 (.row ub 3 1 (Jn.badN (Jn.rds S) k).length ((Jn.badN (Jn.rds S) k).map vi))).set 0 (.row ul 102 5 k ((Jn.psN (Jn.rds S) k).flatMap Jn.ptC)))) (fun (gg : Value × Value × Nat) => match gg with | (ub, ul, k) => k ≤ S.s.length) (fun (gg : Value × Value × Nat) => match gg with | (ub, ul, k) => S.s.length - k) (hF.sub ⟨rfl, rfl, rfl, rfl, trivial⟩) (by subst hhs0; exact hS) (by exact Nat.zero_le _) ?_
 clear hF hS; rintro ⟨ub, ul, k⟩ a w hfact hF hS
 subst hhs0; (try dsimp only at hfact); (try dsimp only at hF); (try dsimp only at hS)
 have hk0 := hfact
 replace hS : St _ (_) (_ :: _ :: _ :: _ :: _ :: _ :: _ :: _) _ := hS
 obtain ⟨hb1, hb2⟩ := Jn.bad_rng (Jn.rds S) k
 have hnx := Jn.nx_rng (Jn.rds S) k
 have hn9 := (Jn.unp_ok (Dk.read S (k : Int)).1).1
 refine wp_seq_k ?_; intro K6 hK6
 refine wp_seq_k ?_; intro K7 hK7
 refine regl ?_
 refine wpl_sq hF hS (sq rfl (q_move rfl) <|
   sq rfl (q_move rfl) <|
   sq_end) ?_
 clear hF hS; intro a w hF hS
 replace hS := hS.perm (.cons _ (.cons _ (.cons _ (.cons _ (.swap _ _ _)))))
 replace hS := hS.perm (.cons _ (.cons _ (.cons _ (.swap _ _ _))))
 replace hS := hS.perm (.cons _ (.cons _ (.swap _ _ _)))
 replace hS := hS.perm (.cons _ (.swap _ _ _))
 replace hS := hS.perm (.swap _ _ _)
 replace hS := hS.perm (.cons _ (.cons _ (.cons _ (.cons _ (.cons _ (.swap _ _ _))))))
 replace hS := hS.perm (.cons _ (.cons _ (.cons _ (.cons _ (.swap _ _ _)))))
 replace hS := hS.perm (.cons _ (.cons _ (.cons _ (.swap _ _ _))))
 replace hS := hS.perm (.cons _ (.cons _ (.swap _ _ _)))
 replace hS := hS.perm (.cons _ (.swap _ _ _))
 replace hS : St _ (_) (_ :: _ :: _ :: _ :: _ :: _ :: _ :: _) _ := hS
 refine wpl_ef hF hS rfl (ef_callx fn52 rfl (List.Perm.refl _) (by exact (rlen_ct _ _  (by first | assumption | exact Dk.ok_step (by assumption) | exact Dk.rst_ok (by assumption) _ _) (S := S) (v := v)))) ?_
 clear hF hS; rintro _ _ _ a w ⟨_, _, rfl, rfl, ⟨rfl, rfl, rfl⟩⟩ hF hS
 replace hS : St _ (_) (_ :: _ :: _ :: _ :: _ :: _ :: _ :: _) _ := hS
 refine wpl_sq hF hS (sq rfl (q_lti rfl rfl) <|
   sq_end) ?_
 clear hF hS; intro a w hF hS
 refine wpList_nil ?_
 refine hK7 _ _ ?_
 clear hK7
 refine wp_ifd hF rfl (fun hc1 => ?_) (fun hc1 => ?_)
 ·obtain ⟨hrd0, hrd64⟩ := Jn.read_ok hO hof (k := k) (by omega)
  refine wp_skip ?_
  refine hK6 _ _ ?_
  clear hK6
  refine wp_seq_k ?_; intro K8 hK8
  refine wp_block ?_
  refine wp_seq_k ?_; intro K9 hK9
  refine regl ?_
  refine wpl_sq hF hS (sq rfl (q_move rfl) <|
    sq rfl (q_move rfl) <|
    sq_end) ?_
  clear hF hS; intro a w hF hS
  refine wpl_ef hF hS rfl (ef_callx fn53 rfl (List.Perm.refl _) (by exact (rread_ct _ _ _  (by first | assumption | exact Dk.ok_step (by assumption) | exact Dk.rst_ok (by assumption) _ _) (S := S) (v := v)))) ?_
  clear hF hS; rintro _ _ _ a w ⟨_, _, rfl, rfl, ⟨rfl, rfl, rfl⟩⟩ hF hS
  replace hS : St _ (_) (_ :: _ :: _ :: _ :: _ :: _ :: _ :: _) _ := hS
  refine wpl_sq hF hS (sq rfl (q_move rfl) <|
    sq rfl (q_extract rfl rfl) <|
    sq rfl (q_extract rfl rfl) <|
    sq rfl (q_assign rfl) <|
    sq rfl (q_assign rfl) <|
    sq_end) ?_
  clear hF hS; intro a w hF hS
  refine wpList_nil ?_
  refine hK9 _ _ ?_
  clear hK9
  refine wp_seq_k ?_; intro K10 hK10
  refine wp_seq_k ?_; intro K11 hK11
  refine reg hF hS (sq rfl (q_move rfl) <|
    sq rfl (q_nei rfl rfl) <|
    sq_end) ?_
  clear hF hS; intro a w hF hS
  refine hK11 _ _ ?_
  clear hK11
  refine wp_ifn hF rfl (fun hc2 => ?_) (fun hc2 => ?_)
  ·exact absurd hrd0 hc2
  ·refine wp_skip ?_
   refine hK10 _ _ ?_
   clear hK10
   refine wp_seq_k ?_; intro K12 hK12
   refine regl ?_
   refine wpl_sq hF hS (sq rfl (q_move rfl) <|
     sq rfl (q_call fn54 rfl (fun w hS => runpack_ct _ w (hS.ext _ _ hg0)) (fun _ _ _ h => h)) <|
     sq_end) ?_
   clear hF hS; intro a w hF hS
   refine wpl_ef hF hS rfl (ef_allocA ty102) ?_
   clear hF hS; rintro _ _ _ a w ⟨b4, rfl, rfl, rfl⟩ hF hS
   refine wpl_ef hF hS rfl (ef_storeW ty102 0 rfl rfl rfl rfl bQ (oc_cons rfl (oc_cons rfl (oc_cons rfl (oc_cons rfl (oc_cons rfl oc_nil))))) bQ) ?_
   clear hF hS; rintro _ _ _ a w ⟨rfl, rfl, rfl⟩ hF hS
   replace hS : St _ (_) (_ :: _ :: _ :: _ :: _ :: _ :: _ :: _ :: _) _ := hS
   refine wpList_nil ?_
   refine hK12 _ _ ?_
   clear hK12
   refine wp_seq_k ?_; intro K13 hK13
   refine regl ?_
   refine wpl_sq hF hS (sq rfl (q_move rfl) <|
     sq rfl (q_ld_blkW ty102 0 rfl rfl bQ rfl) <|
     sq_end) ?_
   clear hF hS; intro a w hF hS
   refine wpl_ef hF hS rfl (ef_bsliceW ty100 ty102 rfl bQ (by decide) oQ (by decide) (by decide)) ?_
   clear hF hS; rintro v5 _ _ a w ⟨rfl, rfl⟩ hF hS
   replace hS : St _ (_) (_ :: _ :: _ :: _ :: _ :: _ :: _ :: _ :: _ :: _) _ := hS
   refine wpl_ef hF hS rfl (ef_append ty100 ty102 4 rfl rfl rfl (src_row ty100 (k := 0) rfl oQ) bQ rfl (by decide)) ?_
   clear hF hS; rintro v7 _ _ a w ⟨rfl, rfl⟩ hF hS
   replace hS : St _ (_) (_ :: _ :: _ :: _ :: _ :: _ :: _ :: _ :: _ :: _) _ := hS
   refine wpl_sq hF hS (sq rfl (q_assign rfl) <|
     sq_end) ?_
   clear hF hS; intro a w hF hS
   refine wpList_nil ?_
   refine hK13 _ _ ?_
   clear hK13
   refine wp_seq_k ?_; intro K14 hK14
   refine reg hF hS (sq rfl (q_move rfl) <|
     sq rfl (q_call fn55 rfl (fun w hS => blank_ct _ (by omega) w ) (fun _ _ _ h => h)) <|
     sq rfl (q_assign rfl) <|
     sq_end) ?_
   clear hF hS; intro a w hF hS
   refine hK14 _ _ ?_
   clear hK14
   refine wp_seq_k ?_; intro K15 hK15
   refine wp_seq_k ?_; intro K16 hK16
   refine reg hF hS (sq rfl (q_move rfl) <|
     sq rfl (q_not rfl) <|
     sq_end) ?_
   clear hF hS; intro a w hF hS
   refine hK16 _ _ ?_
   clear hK16
   refine wp_ifn hF rfl (fun hc3 => ?_) (fun hc3 => ?_)
   ·refine regl ?_
    refine wpl_sq hF hS (sq rfl (q_move rfl) <|
      sq rfl (q_move rfl) <|
      sq rfl (q_addi rfl rfl (by omega)) <|
      sq rfl (q_nilCheck rfl) <|
      sq rfl (q_fieldAddr ty66 rfl rfl (s' := 0) kQ) <|
      sq_end) ?_
    clear hF hS; intro a w hF hS
    refine wpl_ef hF hS rfl (ef_store1 ty3 8 rfl rfl rfl rfl (by simp)) ?_
    clear hF hS; rintro _ _ _ a w ⟨rfl, rfl, rfl⟩ hF hS
    replace hS : St _ (_) (_ :: _ :: _ :: _ :: _ :: _ :: _ :: _ :: .blk _ _ ([_, _, _, _, _, _, _].set 5 _) :: _) _ := hS
    simp only [List.set_cons_zero, List.set_cons_succ] at hS
    replace hS : St _ (_) (_ :: _ :: _ :: _ :: _ :: _ :: _ :: _ :: _ :: _) _ := hS
    refine wpList_nil ?_
    refine hK15 _ _ ?_
    clear hK15
    refine wp_seq_k ?_; intro K17 hK17
    refine wp_seq_k ?_; intro K18 hK18
    refine regl ?_
    refine wpl_sq hF hS (sq rfl (q_fieldAddr ty102 rfl rfl (s' := 0) kQ) <|
      sq rfl (q_ld_blk1 ty4 1 rfl rfl rfl rfl) <|
      sq rfl (q_not rfl) <|
      sq rfl (q_move rfl) <|
      sq_end) ?_
    clear hF hS; intro a w hF hS
    refine wpl_and 3 55 2 hF hS rfl rfl rfl rfl rfl (fun hg => have hg := hg; sq_go 55 rfl rfl rfl (q_move rfl) <|
      sq_go 55 rfl rfl rfl (q_not rfl) <|
      sq_end) rfl rfl ?_
    clear hF hS; intro a w hF hS
    refine wpList_nil ?_
    refine hK18 _ _ ?_
    clear hK18
    refine wp_if hF rfl (fun hc4 => ?_) (fun hc4 => ?_)
    ·(try simp only [Bool.or_eq_true, Bool.and_eq_true, Bool.or_eq_false_iff, Bool.and_eq_false_iff, decide_eq_true_eq, decide_eq_false_iff_not, Bool.not_eq_true', Bool.not_eq_false'] at hc4)
     refine regl ?_
     refine wpl_sq hF hS (sq rfl (q_move rfl) <|
       sq rfl (q_move rfl) <|
       sq rfl (q_nilCheck rfl) <|
       sq rfl (q_fieldAddr ty66 rfl rfl (s' := 0) kQ) <|
       sq rfl (q_ld_blk1 ty51 8 rfl rfl rfl rfl) <|
       sq rfl (q_move rfl) <|
       sq_end) ?_
     clear hF hS; intro a w hF hS
     refine wpl_ef hF hS rfl (ef_bsliceA ty51 ty3 rfl rfl oQ (by decide) rfl rfl) ?_
     clear hF hS; rintro v8 _ _ a w ⟨rfl, rfl⟩ hF hS
     replace hS : St _ (_) (_ :: _ :: _ :: _ :: _ :: _ :: _ :: _ :: _ :: _ :: _) _ := hS
     refine wpl_ef hF hS rfl (ef_append ty51 ty3 7 rfl rfl rfl (src_row ty51 (k := 0) rfl oQ) bQ rfl (by decide)) ?_
     clear hF hS; rintro v10 _ _ a w ⟨rfl, rfl⟩ hF hS
     replace hS : St _ (_) (_ :: _ :: _ :: _ :: _ :: _ :: _ :: _ :: _ :: _ :: _) _ := hS
     refine wpl_sq hF hS (sq rfl (q_nilCheck rfl) <|
       sq rfl (q_fieldAddr ty66 rfl rfl (s' := 0) kQ) <|
       sq_end) ?_
     clear hF hS; intro a w hF hS
     refine wpl_ef hF hS rfl (ef_store1 ty51 9 rfl rfl rfl (row_one (hS.own _ (List.mem_of_getElem? (i := 7) rfl)).1) (by simp)) ?_
     clear hF hS; rintro _ _ _ a w ⟨rfl, rfl, rfl⟩ hF hS
     replace hS : St _ (_) (_ :: _ :: _ :: _ :: _ :: _ :: _ :: _ :: _ :: .blk _ _ ([_, _, _, _, _, _, _].set 3 _) :: _) _ := hS
     simp only [List.set_cons_zero, List.set_cons_succ] at hS
     replace hS : St _ (_) (_ :: _ :: _ :: _ :: _ :: _ :: _ :: _ :: _ :: _ :: _) _ := hS
     refine wpList_nil ?_
     refine hK17 _ _ ?_
     clear hK17
     refine wp_seq_k ?_; intro K19 hK19
     refine regd mixed kQ hF hS (sq rfl (q_fieldAddr ty102 rfl rfl (s' := 0) kQ) <|
       sq rfl (q_ld_blk1 ty3 2 rfl rfl rfl rfl) <|
       sq rfl (q_move rfl) <|
       sq rfl (q_nilCheck rfl) <|
       sq rfl (q_fieldAddr ty66 rfl rfl (s' := 0) kQ) <|
       sq rfl (q_ld_blk1 ty3 9 rfl rfl rfl rfl) <|
       sq rfl (q_gei rfl rfl) <|
       sq_end) ?_
     clear hF hS; intro a w hF hS
     refine hK19 _ _ ?_
     clear hK19
     refine wp_ifd hF rfl (fun hc5 => ?_) (fun hc5 => ?_)
     ·refine regl ?_
      refine wpl_sq hF hS (sq rfl (q_move rfl) <|
        sq rfl (q_fieldAddr ty102 rfl rfl (s' := 0) kQ) <|
        sq rfl (q_ld_blk1 ty3 2 rfl rfl rfl rfl) <|
        sq rfl (q_addi rfl rfl (by omega)) <|
        sq rfl (q_nilCheck rfl) <|
        sq rfl (q_fieldAddr ty66 rfl rfl (s' := 0) kQ) <|
        sq_end) ?_
      clear hF hS; intro a w hF hS
      refine wpl_ef hF hS rfl (ef_store1 ty3 9 rfl rfl rfl rfl (by simp)) ?_
      clear hF hS; rintro _ _ _ a w ⟨rfl, rfl, rfl⟩ hF hS
      replace hS : St _ (_) (_ :: _ :: _ :: _ :: _ :: _ :: _ :: _ :: _ :: .blk _ _ ([_, _, _, _, _, _, _].set 4 _) :: _) _ := hS
      simp only [List.set_cons_zero, List.set_cons_succ] at hS
      replace hS : St _ (_) (_ :: _ :: _ :: _ :: _ :: _ :: _ :: _ :: _ :: _ :: _) _ := hS
      refine wpList_nil ?_
      refine hK8 _ _ ?_
      clear hK8
      refine reg hF hS (sq rfl (q_move rfl) <|
        sq rfl (q_addi rfl rfl (by omega)) <|
        sq rfl (q_assign rfl) <|
        sq_end) ?_
      clear hF hS; intro a w hF hS
      replace hS := hS.perm (.cons _ (.cons _ (.cons _ (.cons _ (.swap _ _ _)))))
      replace hS := hS.perm (.cons _ (.cons _ (.cons _ (.swap _ _ _))))
      replace hS := hS.perm (.cons _ (.cons _ (.swap _ _ _)))
      replace hS := hS.perm (.cons _ (.swap _ _ _))
      replace hS := hS.perm (.swap _ _ _)
      replace hS := hS.perm (.cons _ (.cons _ (.cons _ (.cons _ (.cons _ (.swap _ _ _))))))
      replace hS := hS.perm (.cons _ (.cons _ (.cons _ (.cons _ (.swap _ _ _)))))
      replace hS := hS.perm (.cons _ (.cons _ (.cons _ (.swap _ _ _))))
      replace hS := hS.perm (.cons _ (.cons _ (.swap _ _ _)))
      replace hS := hS.perm (.cons _ (.swap _ _ _))
      replace hS := hS.perm (.cons _ (.cons _ (.cons _ (.cons _ (.cons _ (.cons _ (.swap _ _ _)))))))
      replace hS := hS.perm (.cons _ (.cons _ (.cons _ (.cons _ (.cons _ (.swap _ _ _))))))
      replace hS := hS.perm (.cons _ (.cons _ (.cons _ (.cons _ (.swap _ _ _)))))
      replace hS := hS.perm (.cons _ (.cons _ (.cons _ (.swap _ _ _))))
      replace hS := hS.perm (.cons _ (.cons _ (.swap _ _ _)))
      replace hS := hS.perm (.cons _ (.cons _ (.cons _ (.cons _ (.cons _ (.cons _ (.cons _ (.swap _ _ _))))))))
      replace hS := hS.perm (.cons _ (.cons _ (.cons _ (.cons _ (.cons _ (.cons _ (.swap _ _ _)))))))
      replace hS := hS.perm (.cons _ (.cons _ (.cons _ (.cons _ (.cons _ (.swap _ _ _))))))
      replace hS := hS.perm (.cons _ (.cons _ (.cons _ (.cons _ (.swap _ _ _)))))
      replace hS := hS.perm (.cons _ (.cons _ (.cons _ (.swap _ _ _))))
      replace hS := hS.perm (.cons _ (.cons _ (.cons _ (.cons _ (.cons _ (.cons _ (.cons _ (.cons _ (.swap _ _ _)))))))))
      replace hS := hS.perm (.cons _ (.cons _ (.cons _ (.cons _ (.cons _ (.cons _ (.cons _ (.swap _ _ _))))))))
      replace hS := hS.perm (.cons _ (.cons _ (.cons _ (.cons _ (.cons _ (.cons _ (.swap _ _ _)))))))
      replace hS := hS.perm (.cons _ (.cons _ (.cons _ (.cons _ (.cons _ (.swap _ _ _))))))
      replace hS := hS.perm (.cons _ (.cons _ (.cons _ (.cons _ (.swap _ _ _)))))
      replace hS := hS.perm (.cons _ (.cons _ (.cons _ (.cons _ (.cons _ (.cons _ (.cons _ (.swap _ _ _))))))))
      replace hS := hS.perm (.cons _ (.cons _ (.cons _ (.cons _ (.cons _ (.cons _ (.swap _ _ _)))))))
      replace hS := hS.perm (.cons _ (.cons _ (.cons _ (.cons _ (.cons _ (.swap _ _ _))))))
      replace hS := hS.perm (.cons _ (.cons _ (.cons _ (.cons _ (.cons _ (.cons _ (.cons _ (.cons _ (.swap _ _ _)))))))))
      replace hS := hS.perm (.cons _ (.cons _ (.cons _ (.cons _ (.cons _ (.cons _ (.cons _ (.swap _ _ _))))))))
      replace hS := hS.perm (.cons _ (.cons _ (.cons _ (.cons _ (.cons _ (.cons _ (.swap _ _ _)))))))
      replace hS := hS.keep sQ (sQ.n.n.n.k.k.k.k.k.k.k)
      refine ⟨(v10, v7, k + 1), ?_, ?_, hF.sub ⟨rfl, rfl, rfl, rfl, trivial⟩, ?_⟩
      ·(try dsimp only); omega
      ·omega
      ·have hra := Jn.rds_at (S := S) (k := k) (by omega)
       (try dsimp only [List.set_cons_zero, List.set_cons_succ])
       rw [Jn.en_f (by rw [hra]; exact hc3), Jn.bad_t (by rw [hra]; exact hc4), Jn.nx_t (by rw [hra]; omega), ← Jn.psN_step (by omega), hra, List.length_append, List.map_append]
       exact hS
     ·refine wp_skip ?_
      refine hK8 _ _ ?_
      clear hK8
      refine reg hF hS (sq rfl (q_move rfl) <|
        sq rfl (q_addi rfl rfl (by omega)) <|
        sq rfl (q_assign rfl) <|
        sq_end) ?_
      clear hF hS; intro a w hF hS
      replace hS := hS.perm (.cons _ (.cons _ (.cons _ (.cons _ (.swap _ _ _)))))
      replace hS := hS.perm (.cons _ (.cons _ (.cons _ (.swap _ _ _))))
      replace hS := hS.perm (.cons _ (.cons _ (.swap _ _ _)))
      replace hS := hS.perm (.cons _ (.swap _ _ _))
      replace hS := hS.perm (.swap _ _ _)
      replace hS := hS.perm (.cons _ (.cons _ (.cons _ (.cons _ (.cons _ (.swap _ _ _))))))
      replace hS := hS.perm (.cons _ (.cons _ (.cons _ (.cons _ (.swap _ _ _)))))
      replace hS := hS.perm (.cons _ (.cons _ (.cons _ (.swap _ _ _))))
      replace hS := hS.perm (.cons _ (.cons _ (.swap _ _ _)))
      replace hS := hS.perm (.cons _ (.swap _ _ _))
      replace hS := hS.perm (.cons _ (.cons _ (.cons _ (.cons _ (.cons _ (.cons _ (.swap _ _ _)))))))
      replace hS := hS.perm (.cons _ (.cons _ (.cons _ (.cons _ (.cons _ (.swap _ _ _))))))
      replace hS := hS.perm (.cons _ (.cons _ (.cons _ (.cons _ (.swap _ _ _)))))
      replace hS := hS.perm (.cons _ (.cons _ (.cons _ (.swap _ _ _))))
      replace hS := hS.perm (.cons _ (.cons _ (.swap _ _ _)))
      replace hS := hS.perm (.cons _ (.cons _ (.cons _ (.cons _ (.cons _ (.cons _ (.cons _ (.swap _ _ _))))))))
      replace hS := hS.perm (.cons _ (.cons _ (.cons _ (.cons _ (.cons _ (.cons _ (.swap _ _ _)))))))
      replace hS := hS.perm (.cons _ (.cons _ (.cons _ (.cons _ (.cons _ (.swap _ _ _))))))
      replace hS := hS.perm (.cons _ (.cons _ (.cons _ (.cons _ (.swap _ _ _)))))
      replace hS := hS.perm (.cons _ (.cons _ (.cons _ (.swap _ _ _))))
      replace hS := hS.perm (.cons _ (.cons _ (.cons _ (.cons _ (.cons _ (.cons _ (.cons _ (.cons _ (.swap _ _ _)))))))))
      replace hS := hS.perm (.cons _ (.cons _ (.cons _ (.cons _ (.cons _ (.cons _ (.cons _ (.swap _ _ _))))))))
      replace hS := hS.perm (.cons _ (.cons _ (.cons _ (.cons _ (.cons _ (.cons _ (.swap _ _ _)))))))
      replace hS := hS.perm (.cons _ (.cons _ (.cons _ (.cons _ (.cons _ (.swap _ _ _))))))
      replace hS := hS.perm (.cons _ (.cons _ (.cons _ (.cons _ (.swap _ _ _)))))
      replace hS := hS.perm (.cons _ (.cons _ (.cons _ (.cons _ (.cons _ (.cons _ (.cons _ (.swap _ _ _))))))))
      replace hS := hS.perm (.cons _ (.cons _ (.cons _ (.cons _ (.cons _ (.cons _ (.swap _ _ _)))))))
      replace hS := hS.perm (.cons _ (.cons _ (.cons _ (.cons _ (.cons _ (.swap _ _ _))))))
      replace hS := hS.perm (.cons _ (.cons _ (.cons _ (.cons _ (.cons _ (.cons _ (.cons _ (.cons _ (.swap _ _ _)))))))))
      replace hS := hS.perm (.cons _ (.cons _ (.cons _ (.cons _ (.cons _ (.cons _ (.cons _ (.swap _ _ _))))))))
      replace hS := hS.perm (.cons _ (.cons _ (.cons _ (.cons _ (.cons _ (.cons _ (.swap _ _ _)))))))
      replace hS := hS.keep sQ (sQ.n.n.n.k.k.k.k.k.k.k)
      refine ⟨(v10, v7, k + 1), ?_, ?_, hF.sub ⟨rfl, rfl, rfl, rfl, trivial⟩, ?_⟩
      ·(try dsimp only); omega
      ·omega
      ·have hra := Jn.rds_at (S := S) (k := k) (by omega)
       (try dsimp only [List.set_cons_zero, List.set_cons_succ])
       rw [Jn.en_f (by rw [hra]; exact hc3), Jn.bad_t (by rw [hra]; exact hc4), Jn.nx_f (by rw [hra]; omega), ← Jn.psN_step (by omega), hra, List.length_append, List.map_append]
       exact hS
    ·(try simp only [Bool.or_eq_true, Bool.and_eq_true, Bool.or_eq_false_iff, Bool.and_eq_false_iff, decide_eq_true_eq, decide_eq_false_iff_not, Bool.not_eq_true', Bool.not_eq_false'] at hc4)
     refine wp_skip ?_
     refine hK17 _ _ ?_
     clear hK17
     refine wp_seq_k ?_; intro K20 hK20
     refine regd mixed kQ hF hS (sq rfl (q_fieldAddr ty102 rfl rfl (s' := 0) kQ) <|
       sq rfl (q_ld_blk1 ty3 1 rfl rfl rfl rfl) <|
       sq rfl (q_move rfl) <|
       sq rfl (q_nilCheck rfl) <|
       sq rfl (q_fieldAddr ty66 rfl rfl (s' := 0) kQ) <|
       sq rfl (q_ld_blk1 ty3 8 rfl rfl rfl rfl) <|
       sq rfl (q_gei rfl rfl) <|
       sq_end) ?_
     clear hF hS; intro a w hF hS
     refine hK20 _ _ ?_
     clear hK20
     refine wp_ifd hF rfl (fun hc6 => ?_) (fun hc6 => ?_)
     ·refine regl ?_
      refine wpl_sq hF hS (sq rfl (q_move rfl) <|
        sq rfl (q_fieldAddr ty102 rfl rfl (s' := 0) kQ) <|
        sq rfl (q_ld_blk1 ty3 1 rfl rfl rfl rfl) <|
        sq rfl (q_addi rfl rfl (by omega)) <|
        sq rfl (q_nilCheck rfl) <|
        sq rfl (q_fieldAddr ty66 rfl rfl (s' := 0) kQ) <|
        sq_end) ?_
      clear hF hS; intro a w hF hS
      refine wpl_ef hF hS rfl (ef_store1 ty3 8 rfl rfl rfl rfl (by simp)) ?_
      clear hF hS; rintro _ _ _ a w ⟨rfl, rfl, rfl⟩ hF hS
      replace hS : St _ (_) (_ :: _ :: _ :: _ :: _ :: _ :: _ :: _ :: .blk _ _ ([_, _, _, _, _, _, _].set 4 _) :: _) _ := hS
      simp only [List.set_cons_zero, List.set_cons_succ] at hS
      replace hS : St _ (_) (_ :: _ :: _ :: _ :: _ :: _ :: _ :: _ :: _ :: _) _ := hS
      refine wpList_nil ?_
      refine hK8 _ _ ?_
      clear hK8
      refine reg hF hS (sq rfl (q_move rfl) <|
        sq rfl (q_addi rfl rfl (by omega)) <|
        sq rfl (q_assign rfl) <|
        sq_end) ?_
      clear hF hS; intro a w hF hS
      replace hS := hS.perm (.cons _ (.cons _ (.cons _ (.swap _ _ _))))
      replace hS := hS.perm (.cons _ (.cons _ (.swap _ _ _)))
      replace hS := hS.perm (.cons _ (.swap _ _ _))
      replace hS := hS.perm (.swap _ _ _)
      replace hS := hS.perm (.cons _ (.cons _ (.cons _ (.cons _ (.swap _ _ _)))))
      replace hS := hS.perm (.cons _ (.cons _ (.cons _ (.swap _ _ _))))
      replace hS := hS.perm (.cons _ (.cons _ (.swap _ _ _)))
      replace hS := hS.perm (.cons _ (.swap _ _ _))
      replace hS := hS.perm (.cons _ (.cons _ (.cons _ (.cons _ (.cons _ (.swap _ _ _))))))
      replace hS := hS.perm (.cons _ (.cons _ (.cons _ (.cons _ (.swap _ _ _)))))
      replace hS := hS.perm (.cons _ (.cons _ (.cons _ (.swap _ _ _))))
      replace hS := hS.perm (.cons _ (.cons _ (.swap _ _ _)))
      replace hS := hS.perm (.cons _ (.cons _ (.cons _ (.cons _ (.cons _ (.cons _ (.swap _ _ _)))))))
      replace hS := hS.perm (.cons _ (.cons _ (.cons _ (.cons _ (.cons _ (.swap _ _ _))))))
      replace hS := hS.perm (.cons _ (.cons _ (.cons _ (.cons _ (.swap _ _ _)))))
      replace hS := hS.perm (.cons _ (.cons _ (.cons _ (.swap _ _ _))))
      replace hS := hS.perm (.cons _ (.cons _ (.cons _ (.cons _ (.cons _ (.cons _ (.cons _ (.swap _ _ _))))))))
      replace hS := hS.perm (.cons _ (.cons _ (.cons _ (.cons _ (.cons _ (.cons _ (.swap _ _ _)))))))
      replace hS := hS.perm (.cons _ (.cons _ (.cons _ (.cons _ (.cons _ (.swap _ _ _))))))
      replace hS := hS.perm (.cons _ (.cons _ (.cons _ (.cons _ (.swap _ _ _)))))
      replace hS := hS.perm (.cons _ (.cons _ (.cons _ (.cons _ (.cons _ (.cons _ (.swap _ _ _)))))))
      replace hS := hS.perm (.cons _ (.cons _ (.cons _ (.cons _ (.cons _ (.swap _ _ _))))))
      replace hS := hS.perm (.cons _ (.cons _ (.cons _ (.cons _ (.cons _ (.cons _ (.cons _ (.swap _ _ _))))))))
      replace hS := hS.perm (.cons _ (.cons _ (.cons _ (.cons _ (.cons _ (.cons _ (.swap _ _ _)))))))
      replace hS := hS.keep sQ (sQ.n.n.k.k.k.k.k.k.k)
      refine ⟨(ub, v7, k + 1), ?_, ?_, hF.sub ⟨rfl, rfl, rfl, rfl, trivial⟩, ?_⟩
      ·(try dsimp only); omega
      ·omega
      ·have hra := Jn.rds_at (S := S) (k := k) (by omega)
       (try dsimp only [List.set_cons_zero, List.set_cons_succ])
       rw [Jn.en_f (by rw [hra]; exact hc3), Jn.bad_f (by rw [hra]; intro hq; rcases hc4 with h9 | h9; (rw [h9] at hq; exact absurd hq.1 (by simp)); exact hq.2 h9), Jn.nx_t (by rw [hra]; omega), ← Jn.psN_step (by omega), hra]
       exact hS
     ·refine wp_skip ?_
      refine hK8 _ _ ?_
      clear hK8
      refine reg hF hS (sq rfl (q_move rfl) <|
        sq rfl (q_addi rfl rfl (by omega)) <|
        sq rfl (q_assign rfl) <|
        sq_end) ?_
      clear hF hS; intro a w hF hS
      replace hS := hS.perm (.cons _ (.cons _ (.cons _ (.swap _ _ _))))
      replace hS := hS.perm (.cons _ (.cons _ (.swap _ _ _)))
      replace hS := hS.perm (.cons _ (.swap _ _ _))
      replace hS := hS.perm (.swap _ _ _)
      replace hS := hS.perm (.cons _ (.cons _ (.cons _ (.cons _ (.swap _ _ _)))))
      replace hS := hS.perm (.cons _ (.cons _ (.cons _ (.swap _ _ _))))
      replace hS := hS.perm (.cons _ (.cons _ (.swap _ _ _)))
      replace hS := hS.perm (.cons _ (.swap _ _ _))
      replace hS := hS.perm (.cons _ (.cons _ (.cons _ (.cons _ (.cons _ (.swap _ _ _))))))
      replace hS := hS.perm (.cons _ (.cons _ (.cons _ (.cons _ (.swap _ _ _)))))
      replace hS := hS.perm (.cons _ (.cons _ (.cons _ (.swap _ _ _))))
      replace hS := hS.perm (.cons _ (.cons _ (.swap _ _ _)))
      replace hS := hS.perm (.cons _ (.cons _ (.cons _ (.cons _ (.cons _ (.cons _ (.swap _ _ _)))))))
      replace hS := hS.perm (.cons _ (.cons _ (.cons _ (.cons _ (.cons _ (.swap _ _ _))))))
      replace hS := hS.perm (.cons _ (.cons _ (.cons _ (.cons _ (.swap _ _ _)))))
      replace hS := hS.perm (.cons _ (.cons _ (.cons _ (.swap _ _ _))))
      replace hS := hS.perm (.cons _ (.cons _ (.cons _ (.cons _ (.cons _ (.cons _ (.cons _ (.swap _ _ _))))))))
      replace hS := hS.perm (.cons _ (.cons _ (.cons _ (.cons _ (.cons _ (.cons _ (.swap _ _ _)))))))
      replace hS := hS.perm (.cons _ (.cons _ (.cons _ (.cons _ (.cons _ (.swap _ _ _))))))
      replace hS := hS.perm (.cons _ (.cons _ (.cons _ (.cons _ (.swap _ _ _)))))
      replace hS := hS.perm (.cons _ (.cons _ (.cons _ (.cons _ (.cons _ (.cons _ (.swap _ _ _)))))))
      replace hS := hS.perm (.cons _ (.cons _ (.cons _ (.cons _ (.cons _ (.swap _ _ _))))))
      replace hS := hS.perm (.cons _ (.cons _ (.cons _ (.cons _ (.cons _ (.cons _ (.cons _ (.swap _ _ _))))))))
      replace hS := hS.perm (.cons _ (.cons _ (.cons _ (.cons _ (.cons _ (.cons _ (.swap _ _ _)))))))
      replace hS := hS.keep sQ (sQ.n.n.k.k.k.k.k.k.k)
      refine ⟨(ub, v7, k + 1), ?_, ?_, hF.sub ⟨rfl, rfl, rfl, rfl, trivial⟩, ?_⟩
      ·(try dsimp only); omega
      ·omega
      ·have hra := Jn.rds_at (S := S) (k := k) (by omega)
       (try dsimp only [List.set_cons_zero, List.set_cons_succ])
       rw [Jn.en_f (by rw [hra]; exact hc3), Jn.bad_f (by rw [hra]; intro hq; rcases hc4 with h9 | h9; (rw [h9] at hq; exact absurd hq.1 (by simp)); exact hq.2 h9), Jn.nx_f (by rw [hra]; omega), ← Jn.psN_step (by omega), hra]
       exact hS
   ·refine wp_skip ?_
    refine hK15 _ _ ?_
    clear hK15
    refine wp_seq_k ?_; intro K21 hK21
    refine wp_seq_k ?_; intro K22 hK22
    refine regl ?_
    refine wpl_sq hF hS (sq rfl (q_fieldAddr ty102 rfl rfl (s' := 0) kQ) <|
      sq rfl (q_ld_blk1 ty4 1 rfl rfl rfl rfl) <|
      sq rfl (q_not rfl) <|
      sq rfl (q_move rfl) <|
      sq_end) ?_
    clear hF hS; intro a w hF hS
    refine wpl_and 3 55 2 hF hS rfl rfl rfl rfl rfl (fun hg => have hg := hg; sq_go 55 rfl rfl rfl (q_move rfl) <|
      sq_go 55 rfl rfl rfl (q_not rfl) <|
      sq_end) rfl rfl ?_
    clear hF hS; intro a w hF hS
    refine wpList_nil ?_
    refine hK22 _ _ ?_
    clear hK22
    refine wp_if hF rfl (fun hc7 => ?_) (fun hc7 => ?_)
    ·(try simp only [Bool.or_eq_true, Bool.and_eq_true, Bool.or_eq_false_iff, Bool.and_eq_false_iff, decide_eq_true_eq, decide_eq_false_iff_not, Bool.not_eq_true', Bool.not_eq_false'] at hc7)
     refine regl ?_
     refine wpl_sq hF hS (sq rfl (q_move rfl) <|
       sq rfl (q_move rfl) <|
       sq rfl (q_nilCheck rfl) <|
       sq rfl (q_fieldAddr ty66 rfl rfl (s' := 0) kQ) <|
       sq rfl (q_ld_blk1 ty51 8 rfl rfl rfl rfl) <|
       sq rfl (q_move rfl) <|
       sq_end) ?_
     clear hF hS; intro a w hF hS
     refine wpl_ef hF hS rfl (ef_bsliceA ty51 ty3 rfl rfl oQ (by decide) rfl rfl) ?_
     clear hF hS; rintro v11 _ _ a w ⟨rfl, rfl⟩ hF hS
     replace hS : St _ (_) (_ :: _ :: _ :: _ :: _ :: _ :: _ :: _ :: _ :: _ :: _) _ := hS
     refine wpl_ef hF hS rfl (ef_append ty51 ty3 7 rfl rfl rfl (src_row ty51 (k := 0) rfl oQ) bQ rfl (by decide)) ?_
     clear hF hS; rintro v13 _ _ a w ⟨rfl, rfl⟩ hF hS
     replace hS : St _ (_) (_ :: _ :: _ :: _ :: _ :: _ :: _ :: _ :: _ :: _ :: _) _ := hS
     refine wpl_sq hF hS (sq rfl (q_nilCheck rfl) <|
       sq rfl (q_fieldAddr ty66 rfl rfl (s' := 0) kQ) <|
       sq_end) ?_
     clear hF hS; intro a w hF hS
     refine wpl_ef hF hS rfl (ef_store1 ty51 9 rfl rfl rfl (row_one (hS.own _ (List.mem_of_getElem? (i := 7) rfl)).1) (by simp)) ?_
     clear hF hS; rintro _ _ _ a w ⟨rfl, rfl, rfl⟩ hF hS
     replace hS : St _ (_) (_ :: _ :: _ :: _ :: _ :: _ :: _ :: _ :: _ :: .blk _ _ ([_, _, _, _, _, _, _].set 3 _) :: _) _ := hS
     simp only [List.set_cons_zero, List.set_cons_succ] at hS
     replace hS : St _ (_) (_ :: _ :: _ :: _ :: _ :: _ :: _ :: _ :: _ :: _ :: _) _ := hS
     refine wpList_nil ?_
     refine hK21 _ _ ?_
     clear hK21
     refine wp_seq_k ?_; intro K23 hK23
     refine regd mixed kQ hF hS (sq rfl (q_fieldAddr ty102 rfl rfl (s' := 0) kQ) <|
       sq rfl (q_ld_blk1 ty3 2 rfl rfl rfl rfl) <|
       sq rfl (q_move rfl) <|
       sq rfl (q_nilCheck rfl) <|
       sq rfl (q_fieldAddr ty66 rfl rfl (s' := 0) kQ) <|
       sq rfl (q_ld_blk1 ty3 9 rfl rfl rfl rfl) <|
       sq rfl (q_gei rfl rfl) <|
       sq_end) ?_
     clear hF hS; intro a w hF hS
     refine hK23 _ _ ?_
     clear hK23
     refine wp_ifd hF rfl (fun hc8 => ?_) (fun hc8 => ?_)
     ·refine regl ?_
      refine wpl_sq hF hS (sq rfl (q_move rfl) <|
        sq rfl (q_fieldAddr ty102 rfl rfl (s' := 0) kQ) <|
        sq rfl (q_ld_blk1 ty3 2 rfl rfl rfl rfl) <|
        sq rfl (q_addi rfl rfl (by omega)) <|
        sq rfl (q_nilCheck rfl) <|
        sq rfl (q_fieldAddr ty66 rfl rfl (s' := 0) kQ) <|
        sq_end) ?_
      clear hF hS; intro a w hF hS
      refine wpl_ef hF hS rfl (ef_store1 ty3 9 rfl rfl rfl rfl (by simp)) ?_
      clear hF hS; rintro _ _ _ a w ⟨rfl, rfl, rfl⟩ hF hS
      replace hS : St _ (_) (_ :: _ :: _ :: _ :: _ :: _ :: _ :: _ :: _ :: .blk _ _ ([_, _, _, _, _, _, _].set 4 _) :: _) _ := hS
      simp only [List.set_cons_zero, List.set_cons_succ] at hS
      replace hS : St _ (_) (_ :: _ :: _ :: _ :: _ :: _ :: _ :: _ :: _ :: _ :: _) _ := hS
      refine wpList_nil ?_
      refine hK8 _ _ ?_
      clear hK8
      refine reg hF hS (sq rfl (q_move rfl) <|
        sq rfl (q_addi rfl rfl (by omega)) <|
        sq rfl (q_assign rfl) <|
        sq_end) ?_
      clear hF hS; intro a w hF hS
      replace hS := hS.perm (.cons _ (.cons _ (.cons _ (.cons _ (.swap _ _ _)))))
      replace hS := hS.perm (.cons _ (.cons _ (.cons _ (.swap _ _ _))))
      replace hS := hS.perm (.cons _ (.cons _ (.swap _ _ _)))
      replace hS := hS.perm (.cons _ (.swap _ _ _))
      replace hS := hS.perm (.swap _ _ _)
      replace hS := hS.perm (.cons _ (.cons _ (.cons _ (.cons _ (.cons _ (.swap _ _ _))))))
      replace hS := hS.perm (.cons _ (.cons _ (.cons _ (.cons _ (.swap _ _ _)))))
      replace hS := hS.perm (.cons _ (.cons _ (.cons _ (.swap _ _ _))))
      replace hS := hS.perm (.cons _ (.cons _ (.swap _ _ _)))
      replace hS := hS.perm (.cons _ (.swap _ _ _))
      replace hS := hS.perm (.cons _ (.cons _ (.cons _ (.cons _ (.cons _ (.cons _ (.swap _ _ _)))))))
      replace hS := hS.perm (.cons _ (.cons _ (.cons _ (.cons _ (.cons _ (.swap _ _ _))))))
      replace hS := hS.perm (.cons _ (.cons _ (.cons _ (.cons _ (.swap _ _ _)))))
      replace hS := hS.perm (.cons _ (.cons _ (.cons _ (.swap _ _ _))))
      replace hS := hS.perm (.cons _ (.cons _ (.swap _ _ _)))
      replace hS := hS.perm (.cons _ (.cons _ (.cons _ (.cons _ (.cons _ (.cons _ (.cons _ (.swap _ _ _))))))))
      replace hS := hS.perm (.cons _ (.cons _ (.cons _ (.cons _ (.cons _ (.cons _ (.swap _ _ _)))))))
      replace hS := hS.perm (.cons _ (.cons _ (.cons _ (.cons _ (.cons _ (.swap _ _ _))))))
      replace hS := hS.perm (.cons _ (.cons _ (.cons _ (.cons _ (.swap _ _ _)))))
      replace hS := hS.perm (.cons _ (.cons _ (.cons _ (.swap _ _ _))))
      replace hS := hS.perm (.cons _ (.cons _ (.cons _ (.cons _ (.cons _ (.cons _ (.cons _ (.cons _ (.swap _ _ _)))))))))
      replace hS := hS.perm (.cons _ (.cons _ (.cons _ (.cons _ (.cons _ (.cons _ (.cons _ (.swap _ _ _))))))))
      replace hS := hS.perm (.cons _ (.cons _ (.cons _ (.cons _ (.cons _ (.cons _ (.swap _ _ _)))))))
      replace hS := hS.perm (.cons _ (.cons _ (.cons _ (.cons _ (.cons _ (.swap _ _ _))))))
      replace hS := hS.perm (.cons _ (.cons _ (.cons _ (.cons _ (.swap _ _ _)))))
      replace hS := hS.perm (.cons _ (.cons _ (.cons _ (.cons _ (.cons _ (.cons _ (.cons _ (.swap _ _ _))))))))
      replace hS := hS.perm (.cons _ (.cons _ (.cons _ (.cons _ (.cons _ (.cons _ (.swap _ _ _)))))))
      replace hS := hS.perm (.cons _ (.cons _ (.cons _ (.cons _ (.cons _ (.swap _ _ _))))))
      replace hS := hS.perm (.cons _ (.cons _ (.cons _ (.cons _ (.cons _ (.cons _ (.cons _ (.cons _ (.swap _ _ _)))))))))
      replace hS := hS.perm (.cons _ (.cons _ (.cons _ (.cons _ (.cons _ (.cons _ (.cons _ (.swap _ _ _))))))))
      replace hS := hS.perm (.cons _ (.cons _ (.cons _ (.cons _ (.cons _ (.cons _ (.swap _ _ _)))))))
      replace hS := hS.keep sQ (sQ.n.n.n.k.k.k.k.k.k.k)
      refine ⟨(v13, v7, k + 1), ?_, ?_, hF.sub ⟨rfl, rfl, rfl, rfl, trivial⟩, ?_⟩
      ·(try dsimp only); omega
      ·omega
      ·have hra := Jn.rds_at (S := S) (k := k) (by omega)
       (try dsimp only [List.set_cons_zero, List.set_cons_succ])
       rw [Jn.en_t (by rw [hra]; exact hc3), Jn.bad_t (by rw [hra]; exact hc7), Jn.nx_t (by rw [hra]; omega), ← Jn.psN_step (by omega), hra, List.length_append, List.map_append]
       exact hS
     ·refine wp_skip ?_
      refine hK8 _ _ ?_
      clear hK8
      refine reg hF hS (sq rfl (q_move rfl) <|
        sq rfl (q_addi rfl rfl (by omega)) <|
        sq rfl (q_assign rfl) <|
        sq_end) ?_
      clear hF hS; intro a w hF hS
      replace hS := hS.perm (.cons _ (.cons _ (.cons _ (.cons _ (.swap _ _ _)))))
      replace hS := hS.perm (.cons _ (.cons _ (.cons _ (.swap _ _ _))))
      replace hS := hS.perm (.cons _ (.cons _ (.swap _ _ _)))
      replace hS := hS.perm (.cons _ (.swap _ _ _))
      replace hS := hS.perm (.swap _ _ _)
      replace hS := hS.perm (.cons _ (.cons _ (.cons _ (.cons _ (.cons _ (.swap _ _ _))))))
      replace hS := hS.perm (.cons _ (.cons _ (.cons _ (.cons _ (.swap _ _ _)))))
      replace hS := hS.perm (.cons _ (.cons _ (.cons _ (.swap _ _ _))))
      replace hS := hS.perm (.cons _ (.cons _ (.swap _ _ _)))
      replace hS := hS.perm (.cons _ (.swap _ _ _))
      replace hS := hS.perm (.cons _ (.cons _ (.cons _ (.cons _ (.cons _ (.cons _ (.swap _ _ _)))))))
      replace hS := hS.perm (.cons _ (.cons _ (.cons _ (.cons _ (.cons _ (.swap _ _ _))))))
      replace hS := hS.perm (.cons _ (.cons _ (.cons _ (.cons _ (.swap _ _ _)))))
      replace hS := hS.perm (.cons _ (.cons _ (.cons _ (.swap _ _ _))))
      replace hS := hS.perm (.cons _ (.cons _ (.swap _ _ _)))
      replace hS := hS.perm (.cons _ (.cons _ (.cons _ (.cons _ (.cons _ (.cons _ (.cons _ (.swap _ _ _))))))))
      replace hS := hS.perm (.cons _ (.cons _ (.cons _ (.cons _ (.cons _ (.cons _ (.swap _ _ _)))))))
      replace hS := hS.perm (.cons _ (.cons _ (.cons _ (.cons _ (.cons _ (.swap _ _ _))))))
      replace hS := hS.perm (.cons _ (.cons _ (.cons _ (.cons _ (.swap _ _ _)))))
      replace hS := hS.perm (.cons _ (.cons _ (.cons _ (.swap _ _ _))))
      replace hS := hS.perm (.cons _ (.cons _ (.cons _ (.cons _ (.cons _ (.cons _ (.cons _ (.cons _ (.swap _ _ _)))))))))
      replace hS := hS.perm (.cons _ (.cons _ (.cons _ (.cons _ (.cons _ (.cons _ (.cons _ (.swap _ _ _))))))))
      replace hS := hS.perm (.cons _ (.cons _ (.cons _ (.cons _ (.cons _ (.cons _ (.swap _ _ _)))))))
      replace hS := hS.perm (.cons _ (.cons _ (.cons _ (.cons _ (.cons _ (.swap _ _ _))))))
      replace hS := hS.perm (.cons _ (.cons _ (.cons _ (.cons _ (.swap _ _ _)))))
      replace hS := hS.perm (.cons _ (.cons _ (.cons _ (.cons _ (.cons _ (.cons _ (.cons _ (.swap _ _ _))))))))
      replace hS := hS.perm (.cons _ (.cons _ (.cons _ (.cons _ (.cons _ (.cons _ (.swap _ _ _)))))))
      replace hS := hS.perm (.cons _ (.cons _ (.cons _ (.cons _ (.cons _ (.swap _ _ _))))))
      replace hS := hS.perm (.cons _ (.cons _ (.cons _ (.cons _ (.cons _ (.cons _ (.cons _ (.cons _ (.swap _ _ _)))))))))
      replace hS := hS.perm (.cons _ (.cons _ (.cons _ (.cons _ (.cons _ (.cons _ (.cons _ (.swap _ _ _))))))))
      replace hS := hS.perm (.cons _ (.cons _ (.cons _ (.cons _ (.cons _ (.cons _ (.swap _ _ _)))))))
      replace hS := hS.keep sQ (sQ.n.n.n.k.k.k.k.k.k.k)
      refine ⟨(v13, v7, k + 1), ?_, ?_, hF.sub ⟨rfl, rfl, rfl, rfl, trivial⟩, ?_⟩
      ·(try dsimp only); omega
      ·omega
      ·have hra := Jn.rds_at (S := S) (k := k) (by omega)
       (try dsimp only [List.set_cons_zero, List.set_cons_succ])
       rw [Jn.en_t (by rw [hra]; exact hc3), Jn.bad_t (by rw [hra]; exact hc7), Jn.nx_f (by rw [hra]; omega), ← Jn.psN_step (by omega), hra, List.length_append, List.map_append]
       exact hS
    ·(try simp only [Bool.or_eq_true, Bool.and_eq_true, Bool.or_eq_false_iff, Bool.and_eq_false_iff, decide_eq_true_eq, decide_eq_false_iff_not, Bool.not_eq_true', Bool.not_eq_false'] at hc7)
     refine wp_skip ?_
     refine hK21 _ _ ?_
     clear hK21
     refine wp_seq_k ?_; intro K24 hK24
     refine regd mixed kQ hF hS (sq rfl (q_fieldAddr ty102 rfl rfl (s' := 0) kQ) <|
       sq rfl (q_ld_blk1 ty3 1 rfl rfl rfl rfl) <|
       sq rfl (q_move rfl) <|
       sq rfl (q_nilCheck rfl) <|
       sq rfl (q_fieldAddr ty66 rfl rfl (s' := 0) kQ) <|
       sq rfl (q_ld_blk1 ty3 8 rfl rfl rfl rfl) <|
       sq rfl (q_gei rfl rfl) <|
       sq_end) ?_
     clear hF hS; intro a w hF hS
     refine hK24 _ _ ?_
     clear hK24
     refine wp_ifd hF rfl (fun hc9 => ?_) (fun hc9 => ?_)
     ·refine regl ?_
      refine wpl_sq hF hS (sq rfl (q_move rfl) <|
        sq rfl (q_fieldAddr ty102 rfl rfl (s' := 0) kQ) <|
        sq rfl (q_ld_blk1 ty3 1 rfl rfl rfl rfl) <|
        sq rfl (q_addi rfl rfl (by omega)) <|
        sq rfl (q_nilCheck rfl) <|
        sq rfl (q_fieldAddr ty66 rfl rfl (s' := 0) kQ) <|
        sq_end) ?_
      clear hF hS; intro a w hF hS
      refine wpl_ef hF hS rfl (ef_store1 ty3 8 rfl rfl rfl rfl (by simp)) ?_
      clear hF hS; rintro _ _ _ a w ⟨rfl, rfl, rfl⟩ hF hS
      replace hS : St _ (_) (_ :: _ :: _ :: _ :: _ :: _ :: _ :: _ :: .blk _ _ ([_, _, _, _, _, _, _].set 4 _) :: _) _ := hS
      simp only [List.set_cons_zero, List.set_cons_succ] at hS
      replace hS : St _ (_) (_ :: _ :: _ :: _ :: _ :: _ :: _ :: _ :: _ :: _) _ := hS
      refine wpList_nil ?_
      refine hK8 _ _ ?_
      clear hK8
      refine reg hF hS (sq rfl (q_move rfl) <|
        sq rfl (q_addi rfl rfl (by omega)) <|
        sq rfl (q_assign rfl) <|
        sq_end) ?_
      clear hF hS; intro a w hF hS
      replace hS := hS.perm (.cons _ (.cons _ (.cons _ (.swap _ _ _))))
      replace hS := hS.perm (.cons _ (.cons _ (.swap _ _ _)))
      replace hS := hS.perm (.cons _ (.swap _ _ _))
      replace hS := hS.perm (.swap _ _ _)
      replace hS := hS.perm (.cons _ (.cons _ (.cons _ (.cons _ (.swap _ _ _)))))
      replace hS := hS.perm (.cons _ (.cons _ (.cons _ (.swap _ _ _))))
      replace hS := hS.perm (.cons _ (.cons _ (.swap _ _ _)))
      replace hS := hS.perm (.cons _ (.swap _ _ _))
      replace hS := hS.perm (.cons _ (.cons _ (.cons _ (.cons _ (.cons _ (.swap _ _ _))))))
      replace hS := hS.perm (.cons _ (.cons _ (.cons _ (.cons _ (.swap _ _ _)))))
      replace hS := hS.perm (.cons _ (.cons _ (.cons _ (.swap _ _ _))))
      replace hS := hS.perm (.cons _ (.cons _ (.swap _ _ _)))
      replace hS := hS.perm (.cons _ (.cons _ (.cons _ (.cons _ (.cons _ (.cons _ (.swap _ _ _)))))))
      replace hS := hS.perm (.cons _ (.cons _ (.cons _ (.cons _ (.cons _ (.swap _ _ _))))))
      replace hS := hS.perm (.cons _ (.cons _ (.cons _ (.cons _ (.swap _ _ _)))))
      replace hS := hS.perm (.cons _ (.cons _ (.cons _ (.swap _ _ _))))
      replace hS := hS.perm (.cons _ (.cons _ (.cons _ (.cons _ (.cons _ (.cons _ (.cons _ (.swap _ _ _))))))))
      replace hS := hS.perm (.cons _ (.cons _ (.cons _ (.cons _ (.cons _ (.cons _ (.swap _ _ _)))))))
      replace hS := hS.perm (.cons _ (.cons _ (.cons _ (.cons _ (.cons _ (.swap _ _ _))))))
      replace hS := hS.perm (.cons _ (.cons _ (.cons _ (.cons _ (.swap _ _ _)))))
      replace hS := hS.perm (.cons _ (.cons _ (.cons _ (.cons _ (.cons _ (.cons _ (.swap _ _ _)))))))
      replace hS := hS.perm (.cons _ (.cons _ (.cons _ (.cons _ (.cons _ (.swap _ _ _))))))
      replace hS := hS.perm (.cons _ (.cons _ (.cons _ (.cons _ (.cons _ (.cons _ (.cons _ (.swap _ _ _))))))))
      replace hS := hS.perm (.cons _ (.cons _ (.cons _ (.cons _ (.cons _ (.cons _ (.swap _ _ _)))))))
      replace hS := hS.keep sQ (sQ.n.n.k.k.k.k.k.k.k)
      refine ⟨(ub, v7, k + 1), ?_, ?_, hF.sub ⟨rfl, rfl, rfl, rfl, trivial⟩, ?_⟩
      ·(try dsimp only); omega
      ·omega
      ·have hra := Jn.rds_at (S := S) (k := k) (by omega)
       (try dsimp only [List.set_cons_zero, List.set_cons_succ])
       rw [Jn.en_t (by rw [hra]; exact hc3), Jn.bad_f (by rw [hra]; intro hq; rcases hc7 with h9 | h9; (rw [h9] at hq; exact absurd hq.1 (by simp)); exact hq.2 h9), Jn.nx_t (by rw [hra]; omega), ← Jn.psN_step (by omega), hra]
       exact hS
     ·refine wp_skip ?_
      refine hK8 _ _ ?_
      clear hK8
      refine reg hF hS (sq rfl (q_move rfl) <|
        sq rfl (q_addi rfl rfl (by omega)) <|
        sq rfl (q_assign rfl) <|
        sq_end) ?_
      clear hF hS; intro a w hF hS
      replace hS := hS.perm (.cons _ (.cons _ (.cons _ (.swap _ _ _))))
      replace hS := hS.perm (.cons _ (.cons _ (.swap _ _ _)))
      replace hS := hS.perm (.cons _ (.swap _ _ _))
      replace hS := hS.perm (.swap _ _ _)
      replace hS := hS.perm (.cons _ (.cons _ (.cons _ (.cons _ (.swap _ _ _)))))
      replace hS := hS.perm (.cons _ (.cons _ (.cons _ (.swap _ _ _))))
      replace hS := hS.perm (.cons _ (.cons _ (.swap _ _ _)))
      replace hS := hS.perm (.cons _ (.swap _ _ _))
      replace hS := hS.perm (.cons _ (.cons _ (.cons _ (.cons _ (.cons _ (.swap _ _ _))))))
      replace hS := hS.perm (.cons _ (.cons _ (.cons _ (.cons _ (.swap _ _ _)))))
      replace hS := hS.perm (.cons _ (.cons _ (.cons _ (.swap _ _ _))))
      replace hS := hS.perm (.cons _ (.cons _ (.swap _ _ _)))
      replace hS := hS.perm (.cons _ (.cons _ (.cons _ (.cons _ (.cons _ (.cons _ (.swap _ _ _)))))))
      replace hS := hS.perm (.cons _ (.cons _ (.cons _ (.cons _ (.cons _ (.swap _ _ _))))))
      replace hS := hS.perm (.cons _ (.cons _ (.cons _ (.cons _ (.swap _ _ _)))))
      replace hS := hS.perm (.cons _ (.cons _ (.cons _ (.swap _ _ _))))
      replace hS := hS.perm (.cons _ (.cons _ (.cons _ (.cons _ (.cons _ (.cons _ (.cons _ (.swap _ _ _))))))))
      replace hS := hS.perm (.cons _ (.cons _ (.cons _ (.cons _ (.cons _ (.cons _ (.swap _ _ _)))))))
      replace hS := hS.perm (.cons _ (.cons _ (.cons _ (.cons _ (.cons _ (.swap _ _ _))))))
      replace hS := hS.perm (.cons _ (.cons _ (.cons _ (.cons _ (.swap _ _ _)))))
      replace hS := hS.perm (.cons _ (.cons _ (.cons _ (.cons _ (.cons _ (.cons _ (.swap _ _ _)))))))
      replace hS := hS.perm (.cons _ (.cons _ (.cons _ (.cons _ (.cons _ (.swap _ _ _))))))
      replace hS := hS.perm (.cons _ (.cons _ (.cons _ (.cons _ (.cons _ (.cons _ (.cons _ (.swap _ _ _))))))))
      replace hS := hS.perm (.cons _ (.cons _ (.cons _ (.cons _ (.cons _ (.cons _ (.swap _ _ _)))))))
      replace hS := hS.keep sQ (sQ.n.n.k.k.k.k.k.k.k)
      refine ⟨(ub, v7, k + 1), ?_, ?_, hF.sub ⟨rfl, rfl, rfl, rfl, trivial⟩, ?_⟩
      ·(try dsimp only); omega
      ·omega
      ·have hra := Jn.rds_at (S := S) (k := k) (by omega)
       (try dsimp only [List.set_cons_zero, List.set_cons_succ])
       rw [Jn.en_t (by rw [hra]; exact hc3), Jn.bad_f (by rw [hra]; intro hq; rcases hc7 with h9 | h9; (rw [h9] at hq; exact absurd hq.1 (by simp)); exact hq.2 h9), Jn.nx_f (by rw [hra]; omega), ← Jn.psN_step (by omega), hra]
       exact hS
 ·obtain rfl : k = S.s.length := by omega
  refine wp_exit ?_
  refine hK4 _ _ ?_
  clear hK4
  refine wp_seq_k ?_; intro K25 hK25
  refine reg hF hS (sq rfl (q_assign rfl) <|
    sq_end) ?_
  clear hF hS; intro a w hF hS
  replace hS := hS.perm (.cons _ (.swap _ _ _))
  replace hS := hS.perm (.swap _ _ _)
  obtain ⟨zp, hpl, hS⟩ := St.freezeK (hl := Jn.ptC_len) (h1 := Jn.ptC_one) (p := Jn.PtOk) (xs := (Jn.psN (Jn.rds S) S.s.length)) hS (by rw [Jn.psN_len (by omega)]) (by omega) Jn.psN_ok
  have hpn : (Jn.psN (Jn.rds S) S.s.length).length = S.s.length := Jn.psN_len (by omega)
  replace hS : St _ (_ :: _) (_ :: _ :: _ :: _ :: _ :: _ :: _) _ := hS
  refine hK25 _ _ ?_
  clear hK25
  refine wp_seq_k ?_; intro K26 hK26
  refine wp_block ?_
  obtain ⟨hs0, hhs0, hS⟩ : ∃ h, h = _ ∧ St _ _ h _ := ⟨_, rfl, hS⟩
  refine wp_loopx (γ := Value × Value × Jn.Acc × Nat) ((Value.slice none 0 0), (Value.slice none 0 0), ([], []), 0) (fun (gg : Value × Value × Jn.Acc × Nat) => match gg with | (un, ut, acc, m) => [(11, vi (m : Int))]) [(4, _), (5, _)] (fun (gg : Value × Value × Jn.Acc × Nat) => match gg with | (un, ut, acc, m) => (((hs0.set 5 (.blk b1 66 [.pointer (some ⟨bd, 0, none⟩), un, ut, ub, vi (Jn.nxN (Jn.rds S) S.s.length), vi (Jn.enN (Jn.rds S) S.s.length), .bool false])).set 2 (.row un 3 1 acc.1.length (acc.1.map vi))).set 4 (.row ut 9 1 acc.2.length (acc.2.map vs)))) (fun (gg : Value × Value × Jn.Acc × Nat) => match gg with | (un, ut, acc, m) => m ≤ S.s.length ∧ (Jn.AccOk m acc ∧ (acc.1.length : Int) ≤ Jn.enN (Jn.rds S) S.s.length) ∧ Jn.scan ((Jn.psN (Jn.rds S) S.s.length).drop m) acc = Jn.scan (Jn.psN (Jn.rds S) S.s.length) ([], [])) (fun (gg : Value × Value × Jn.Acc × Nat) => match gg with | (un, ut, acc, m) => S.s.length - m) (hF.sub ⟨rfl, rfl, rfl, trivial⟩) (by subst hhs0; exact hS) (by exact ⟨Nat.zero_le _, ⟨Jn.AccOk.start, (Jn.en_rng _ _).1⟩, rfl⟩) ?_
  clear hF hS; rintro ⟨un, ut, acc, m⟩ a w hfact hF hS
  subst hhs0; (try dsimp only at hfact); (try dsimp only at hF); (try dsimp only at hS)
  obtain ⟨hm0, ⟨hacc, hab⟩, hscn⟩ := hfact
  replace hS : St _ (_ :: _) (_ :: _ :: _ :: _ :: _ :: _ :: _) _ := hS
  obtain ⟨hal, hae, har, hat⟩ := hacc
  have hacc : Jn.AccOk m acc := ⟨hal, hae, har, hat⟩
  have hax : ∀ x ∈ acc.1, -9223372036854775808 ≤ x ∧ x ≤ 9223372036854775807 := fun x hx => by have := har x hx; omega
  refine wp_seq_k ?_; intro K27 hK27
  refine wp_seq_k ?_; intro K28 hK28
  refine reg hF hS (sq rfl (q_move rfl) <|
    sq rfl (q_move rfl) <|
    sq rfl (q_len_sl ty100 hpl rfl) <|
    sq rfl (q_lti rfl rfl) <|
    sq_end) ?_
  clear hF hS; intro a w hF hS
  refine hK28 _ _ ?_
  clear hK28
  refine wp_ifd hF rfl (fun hc10 => ?_) (fun hc10 => ?_)
  ·have hfo := Jn.ps_at_ok (R := Jn.rds S) (k := S.s.length) (m := m) (by omega)
   obtain ⟨hf1, hf2, hf3, hf4⟩ := id hfo
   refine wp_skip ?_
   refine hK27 _ _ ?_
   clear hK27
   refine wp_block ?_
   refine wp_seq_k ?_; intro K29 hK29
   refine regl ?_
   refine wpl_sq hF hS (sq rfl (q_move rfl) <|
     sq rfl (q_move rfl) <|
     sq rfl (q_idx_sl ty100 ty102 hpl rfl rfl (by omega)) <|
     sq rfl (q_ld_Pt ty102 hpl (.inr (by simp)) rfl rfl (by first | omega | (simp; omega))) <|
     sq_end) ?_
   clear hF hS; intro a w hF hS
   refine wpl_ef hF hS rfl (ef_allocA ty102) ?_
   clear hF hS; rintro _ _ _ a w ⟨b14, rfl, rfl, rfl⟩ hF hS
   refine wpl_ef hF hS rfl (ef_storeW ty102 0 rfl rfl rfl rfl bQ (oc_cons rfl (oc_cons rfl (oc_cons rfl (oc_cons rfl (oc_cons rfl oc_nil))))) bQ) ?_
   clear hF hS; rintro _ _ _ a w ⟨rfl, rfl, rfl⟩ hF hS
   replace hS : St _ (_ :: _) (_ :: _ :: _ :: _ :: _ :: _ :: _ :: _) _ := hS
   refine wpList_nil ?_
   rw [show ((m : Int)).toNat = m from by omega] at hS
   replace hS : St _ (_ :: _) (.blk b14 102 [vi ((Jn.psN (Jn.rds S) S.s.length).getD m Jn.p0).n, vi ((Jn.psN (Jn.rds S) S.s.length).getD m Jn.p0).p, vi ((Jn.psN (Jn.rds S) S.s.length).getD m Jn.p0).l, vs ((Jn.psN (Jn.rds S) S.s.length).getD m Jn.p0).t, .bool ((Jn.psN (Jn.rds S) S.s.length).getD m Jn.p0).ok] :: _ :: _ :: _ :: _ :: _ :: _ :: _) _ := hS
   refine hK29 _ _ ?_
   clear hK29
   refine wp_seq_k ?_; intro K30 hK30
   refine reg hF hS (sq rfl (q_fieldAddr ty102 rfl rfl (s' := 0) kQ) <|
     sq rfl (q_ld_blk1 ty3 0 rfl rfl rfl rfl) <|
     sq rfl (q_call fn56 rfl (fun w hS => rcount_ct _ (by first | assumption | omega) w ) (fun _ _ _ h => h)) <|
     sq rfl (q_assign rfl) <|
     sq_end) ?_
   clear hF hS; intro a w hF hS
   have hcr := Jn.cnt_rng ((Jn.psN (Jn.rds S) S.s.length).getD m Jn.p0).l
   refine hK30 _ _ ?_
   clear hK30
   refine wp_seq_k ?_; intro K31 hK31
   refine reg hF hS (sq rfl (q_assign rfl) <|
     sq_end) ?_
   clear hF hS; intro a w hF hS
   refine hK31 _ _ ?_
   clear hK31
   refine wp_seq_k ?_; intro K32 hK32
   refine regl ?_
   refine wpl_sq hF hS (sq rfl (q_fieldAddr ty102 rfl rfl (s' := 0) kQ) <|
     sq rfl (q_ld_blk1 ty4 0 rfl rfl rfl rfl) <|
     sq rfl (q_move rfl) <|
     sq_end) ?_
   clear hF hS; intro a w hF hS
   refine wpl_and 2 95 3 hF hS rfl rfl rfl rfl rfl (fun hg => have hg := hg; sq_go 95 rfl rfl rfl (q_fieldAddr ty102 rfl rfl (s' := 0) kQ) <|
     sq_go 95 rfl rfl rfl (q_ld_blk1 ty3 0 rfl rfl rfl rfl) <|
     sq_go 95 rfl rfl rfl (q_eqi rfl rfl) <|
     sq_end) rfl rfl ?_
   clear hF hS; intro a w hF hS
   refine wpl_sq hF hS (sq rfl (q_move rfl) <|
     sq_end) ?_
   clear hF hS; intro a w hF hS
   refine wpl_and 7 100 6 hF hS rfl rfl rfl rfl rfl (fun hg => have hg := hg; sq_go 100 rfl rfl rfl (q_move rfl) <|
     sq_go 100 rfl rfl rfl (q_move rfl) <|
     sq_go 100 rfl rfl rfl (q_addi rfl rfl (by omega)) <|
     sq_go 100 rfl rfl rfl (q_move rfl) <|
     sq_go 100 rfl rfl rfl (q_len_sl ty100 hpl rfl) <|
     sq_go 100 rfl rfl rfl (q_lei rfl rfl) <|
     sq_end) rfl rfl ?_
   clear hF hS; intro a w hF hS
   refine wpl_sq hF hS (sq rfl (q_assign rfl) <|
     sq_end) ?_
   clear hF hS; intro a w hF hS
   refine wpList_nil ?_
   refine hK32 _ _ ?_
   clear hK32
   refine wp_seq_k ?_; intro K33 hK33
   refine wp_seq_k ?_; intro K34 hK34
   refine reg hF hS (sq rfl (q_assign rfl) <|
     sq_end) ?_
   clear hF hS; intro a w hF hS
   refine hK34 _ _ ?_
   clear hK34
   refine wp_block ?_
   obtain ⟨hs0, hhs0, hS⟩ : ∃ h, h = _ ∧ St _ _ h _ := ⟨_, rfl, hS⟩
   refine wp_loopx (γ := Nat) (0) (fun (i : Nat) => [(14, vs (Jn.tx9 (Jn.psN (Jn.rds S) S.s.length) m i)), (15, .bool (Jn.wh (Jn.psN (Jn.rds S) S.s.length) m i)), (16, vi (i : Int))]) [(4, _), (5, _), (11, _), (12, _), (13, _)] (fun (i : Nat) => hs0) (fun (i : Nat) => (i : Int) ≤ Jn.cnt ((Jn.psN (Jn.rds S) S.s.length).getD m Jn.p0).l) (fun (i : Nat) => (Jn.cnt ((Jn.psN (Jn.rds S) S.s.length).getD m Jn.p0).l).toNat - i) (hF.sub ⟨(by show some (vs []) = some (vs _); rw [Jn.tx_0]), (by show some (Value.bool _) = some (Value.bool _); rw [← Jn.wh_start (by omega)]), rfl, rfl, rfl, rfl, rfl, rfl, trivial⟩) (by subst hhs0; exact hS) (by exact hcr.1) ?_
   clear hF hS; rintro i a w hfact hF hS
   subst hhs0; (try dsimp only at hfact); (try dsimp only at hF); (try dsimp only at hS)
   have hi0 := hfact
   replace hS : St _ (_ :: _) (_ :: _ :: _ :: _ :: _ :: _ :: _ :: _) _ := hS
   refine wp_seq_k ?_; intro K35 hK35
   refine wp_seq_k ?_; intro K36 hK36
   refine regl ?_
   refine wpl_sq hF hS (sq rfl (q_move rfl) <|
     sq rfl (q_move rfl) <|
     sq_end) ?_
   clear hF hS; intro a w hF hS
   refine wpl_and 1 109 3 hF hS rfl rfl rfl rfl rfl (fun hg => have hg := hg; sq_go 109 rfl rfl rfl (q_move rfl) <|
     sq_go 109 rfl rfl rfl (q_move rfl) <|
     sq_go 109 rfl rfl rfl (q_lti rfl rfl) <|
     sq_end) rfl rfl ?_
   clear hF hS; intro a w hF hS
   refine wpList_nil ?_
   refine hK36 _ _ ?_
   clear hK36
   refine wp_if hF rfl (fun hc11 => ?_) (fun hc11 => ?_)
   ·(try simp only [Bool.or_eq_true, Bool.and_eq_true, Bool.or_eq_false_iff, Bool.and_eq_false_iff, decide_eq_true_eq, decide_eq_false_iff_not, Bool.not_eq_true', Bool.not_eq_false'] at hc11)
    have hil := Jn.wh_len hc11.1 hc11.2 (by omega)
    have hqo := Jn.ps_at_ok (R := Jn.rds S) (k := S.s.length) (m := m + i) hil
    obtain ⟨hq1, hq2, hq3, hq4⟩ := hqo
    have htl9 := Jn.tx_len (PS := (Jn.psN (Jn.rds S) S.s.length)) Jn.psN_ok m i
    refine wp_skip ?_
    refine hK35 _ _ ?_
    clear hK35
    refine wp_seq_k ?_; intro K37 hK37
    refine wp_block ?_
    refine wp_seq_k ?_; intro K38 hK38
    refine regl ?_
    refine wpl_sq hF hS (sq rfl (q_move rfl) <|
      sq rfl (q_move rfl) <|
      sq rfl (q_move rfl) <|
      sq rfl (q_addi rfl rfl (by omega)) <|
      sq rfl (q_idx_sl ty100 ty102 hpl rfl rfl (by omega)) <|
      sq rfl (q_ld_Pt ty102 hpl (.inr (by simp)) rfl rfl (by first | omega | (simp; omega))) <|
      sq_end) ?_
    clear hF hS; intro a w hF hS
    refine wpl_ef hF hS rfl (ef_allocA ty102) ?_
    clear hF hS; rintro _ _ _ a w ⟨b15, rfl, rfl, rfl⟩ hF hS
    refine wpl_ef hF hS rfl (ef_storeW ty102 0 rfl rfl rfl rfl bQ (oc_cons rfl (oc_cons rfl (oc_cons rfl (oc_cons rfl (oc_cons rfl oc_nil))))) bQ) ?_
    clear hF hS; rintro _ _ _ a w ⟨rfl, rfl, rfl⟩ hF hS
    replace hS : St _ (_ :: _) (_ :: _ :: _ :: _ :: _ :: _ :: _ :: _ :: _) _ := hS
    refine wpList_nil ?_
    rw [show ((m : Int) + (i : Int)).toNat = m + i from by omega] at hS
    replace hS : St _ (_ :: _) (.blk b15 102 [vi ((Jn.psN (Jn.rds S) S.s.length).getD (m + i) Jn.p0).n, vi ((Jn.psN (Jn.rds S) S.s.length).getD (m + i) Jn.p0).p, vi ((Jn.psN (Jn.rds S) S.s.length).getD (m + i) Jn.p0).l, vs ((Jn.psN (Jn.rds S) S.s.length).getD (m + i) Jn.p0).t, .bool ((Jn.psN (Jn.rds S) S.s.length).getD (m + i) Jn.p0).ok] :: _ :: _ :: _ :: _ :: _ :: _ :: _ :: _) _ := hS
    refine hK38 _ _ ?_
    clear hK38
    refine wp_seq_k ?_; intro K39 hK39
    refine regl ?_
    refine wpl_sq hF hS (sq rfl (q_fieldAddr ty102 rfl rfl (s' := 0) kQ) <|
      sq rfl (q_ld_blk1 ty4 0 rfl rfl rfl rfl) <|
      sq rfl (q_move rfl) <|
      sq_end) ?_
    clear hF hS; intro a w hF hS
    refine wpl_and 2 124 5 hF hS rfl rfl rfl rfl rfl (fun hg => have hg := hg; sq_go 124 rfl rfl rfl (q_fieldAddr ty102 rfl rfl (s' := 0) kQ) <|
      sq_go 124 rfl rfl rfl (q_ld_blk1 ty3 0 rfl rfl rfl rfl) <|
      sq_go 124 rfl rfl rfl (q_fieldAddr ty102 rfl rfl (s' := 0) kQ) <|
      sq_go 124 rfl rfl rfl (q_ld_blk1 ty3 1 rfl rfl rfl rfl) <|
      sq_go 124 rfl rfl rfl (q_eqi rfl rfl) <|
      sq_end) rfl rfl ?_
    clear hF hS; intro a w hF hS
    refine wpl_sq hF hS (sq rfl (q_move rfl) <|
      sq_end) ?_
    clear hF hS; intro a w hF hS
    refine wpl_and 9 131 4 hF hS rfl rfl rfl rfl rfl (fun hg => have hg := hg; sq_go 131 rfl rfl rfl (q_fieldAddr ty102 rfl rfl (s' := 0) kQ) <|
      sq_go 131 rfl rfl rfl (q_ld_blk1 ty3 0 rfl rfl rfl rfl) <|
      sq_go 131 rfl rfl rfl (q_move rfl) <|
      sq_go 131 rfl rfl rfl (q_eqi rfl rfl) <|
      sq_end) rfl rfl ?_
    clear hF hS; intro a w hF hS
    refine wpl_sq hF hS (sq rfl (q_move rfl) <|
      sq_end) ?_
    clear hF hS; intro a w hF hS
    refine wpl_and 15 137 8 hF hS rfl rfl rfl rfl rfl (fun hg => have hg := hg; sq_go 137 rfl rfl rfl (q_fieldAddr ty102 rfl rfl (s' := 0) kQ) <|
      sq_go 137 rfl rfl rfl (q_ld_blk1 ty3 0 rfl rfl rfl rfl) <|
      sq_go 137 rfl rfl rfl (q_fieldAddr ty102 rfl rfl (s' := 0) kQ) <|
      sq_go 137 rfl rfl rfl (q_ld_blk1 ty3 1 rfl rfl rfl rfl) <|
      sq_go 137 rfl rfl rfl (q_move rfl) <|
      sq_go 137 rfl rfl rfl (q_muli rfl rfl (by omega)) <|
      sq_go 137 rfl rfl rfl (q_subi rfl rfl (by omega)) <|
      sq_go 137 rfl rfl rfl (q_eqi rfl rfl) <|
      sq_end) rfl rfl ?_
    clear hF hS; intro a w hF hS
    refine wpl_sq hF hS (sq rfl (q_assign rfl) <|
      sq_end) ?_
    clear hF hS; intro a w hF hS
    refine wpList_nil ?_
    refine hK39 _ _ ?_
    clear hK39
    refine reg hF hS (sq rfl (q_move rfl) <|
      sq rfl (q_fieldAddr ty102 rfl rfl (s' := 0) kQ) <|
      sq rfl (q_ld_blk1 ty9 0 rfl rfl rfl rfl) <|
      sq rfl (q_adds rfl rfl bQ) <|
      sq rfl (q_assign rfl) <|
      sq_end) ?_
    clear hF hS; intro a w hF hS
    refine hK37 _ _ ?_
    clear hK37
    refine reg hF hS (sq rfl (q_move rfl) <|
      sq rfl (q_addi rfl rfl (by omega)) <|
      sq rfl (q_assign rfl) <|
      sq_end) ?_
    clear hF hS; intro a w hF hS
    replace hS := hS.keep sQ (sQ.n)
    refine ⟨(i + 1), ?_, ?_, hF.sub ⟨(by show some (vs _) = some (vs _); rw [← Jn.tx_step hil]), (by show some (Value.bool _) = some (Value.bool _); rw [← Jn.wh_step hc11.1 hil]; rfl), rfl, rfl, rfl, rfl, rfl, rfl, trivial⟩, ?_⟩
    ·(try dsimp only); omega
    ·omega
    ·exact hS
   ·(try simp only [Bool.or_eq_true, Bool.and_eq_true, Bool.or_eq_false_iff, Bool.and_eq_false_iff, decide_eq_true_eq, decide_eq_false_iff_not, Bool.not_eq_true', Bool.not_eq_false'] at hc11)
    refine wp_exit ?_
    refine hK33 _ _ ?_
    clear hK33
    refine wp_seq_k ?_; intro K40 hK40
    refine wp_seq_k ?_; intro K41 hK41
    refine reg hF hS (sq rfl (q_move rfl) <|
      sq rfl (q_not rfl) <|
      sq_end) ?_
    clear hF hS; intro a w hF hS
    refine hK41 _ _ ?_
    clear hK41
    refine wp_if hF rfl (fun hc12 => ?_) (fun hc12 => ?_)
    ·have hnone := Jn.wh_no (by omega) (by simpa using hc12) hi0
     refine wp_seq_k ?_; intro K42 hK42
     refine reg hF hS (sq rfl (q_move rfl) <|
       sq rfl (q_addi rfl rfl (by omega)) <|
       sq rfl (q_assign rfl) <|
       sq_end) ?_
     clear hF hS; intro a w hF hS
     refine hK42 _ _ ?_
     clear hK42
     refine wp_exit ?_
     replace hS := hS.keep sQ (sQ.n)
     refine ⟨(un, ut, acc, m + 1), ?_, ?_, hF.sub ⟨(by first | rfl | (show some (vi _) = some (vi _); congr 2; omega)), rfl, rfl, trivial⟩, ?_⟩
     ·(try dsimp only); omega
     ·exact ⟨by omega, ⟨hacc.up (by omega), hab⟩, by rw [← hscn, Jn.scan_none (l := (Jn.psN (Jn.rds S) S.s.length).drop m) (Jn.drop_ne (by omega)) hnone, List.drop_drop]⟩
     ·exact hS
    ·have hwt : Jn.wh (Jn.psN (Jn.rds S) S.s.length) m i = true := by simpa using hc12
     have hni : ¬ (i : Int) < Jn.cnt ((Jn.psN (Jn.rds S) S.s.length).getD m Jn.p0).l := by rcases hc11 with h9 | h9; (rw [hwt] at h9; cases h9); exact h9
     obtain ⟨hrc, hie⟩ := Jn.wh_yes (by omega) hfo hwt hni hi0
     have hrp := Jn.recd_pos hrc
     rw [List.length_drop] at hrp
     obtain ⟨hfok, hrt⟩ := Jn.recd_first hrc (fun x hx => Jn.psN_ok x (List.mem_of_mem_drop hx))
     rw [Jn.f0_drop, Jn.psN_at (by omega) (by omega)] at hfok
     have hnr : 1 ≤ ((Jn.psN (Jn.rds S) S.s.length).getD m Jn.p0).n ∧ ((Jn.psN (Jn.rds S) S.s.length).getD m Jn.p0).n ≤ 4096 := by rw [Jn.psN_at (by omega) (by omega)]; exact ⟨Jn.unp_num hfok, (Jn.unp_ok _).1.2⟩
     have heg := Jn.en_ge (Jn.blank_bad hfok) S.s.length (by omega)
     have hgd : ((Jn.psN (Jn.rds S) S.s.length).drop m).getD 0 Jn.p0 = ((Jn.psN (Jn.rds S) S.s.length).getD m Jn.p0) := Jn.f0_drop _ _
     refine wp_skip ?_
     refine hK40 _ _ ?_
     clear hK40
     refine wp_seq_k ?_; intro K43 hK43
     refine regd mixed kQ hF hS (sq rfl (q_move rfl) <|
       sq rfl (q_nilCheck rfl) <|
       sq rfl (q_fieldAddr ty66 rfl rfl (s' := 0) kQ) <|
       sq rfl (q_ld_blk1 ty51 6 rfl rfl rfl rfl) <|
       sq rfl (q_fieldAddr ty102 rfl rfl (s' := 0) kQ) <|
       sq rfl (q_ld_blk1 ty3 0 rfl rfl rfl rfl) <|
       sq rfl (q_call fn57 rfl (fun w hS => has40_ct _ _ _ w (own_slV (hS.own _ (List.mem_of_getElem? (i := 3) rfl)).1 (by first | assumption | (simp; done)) (by first | rfl | (simp; done) | (simp; omega) | omega) (by first | omega | (simp; omega)))) (fun _ _ _ h => h)) <|
       sq rfl (q_assign rfl) <|
       sq_end) ?_
     clear hF hS; intro a w hF hS
     refine hK43 _ _ ?_
     clear hK43
     refine wp_seq_k ?_; intro K44 hK44
     refine wp_seq_k ?_; intro K45 hK45
     refine reg hF hS (sq rfl (q_move rfl) <|
       sq rfl (q_not rfl) <|
       sq_end) ?_
     clear hF hS; intro a w hF hS
     refine hK45 _ _ ?_
     clear hK45
     refine wp_ifn hF rfl (fun hc13 => ?_) (fun hc13 => ?_)
     ·refine wp_seq_k ?_; intro K46 hK46
      revert hS; revert hF; apply regJ (J := J2 (α0 := Value) (α1 := Value) 189 _ _ _ _ _) #[false, false, false, false, false, false, false, false, false, false, false, false] 12 mixed rfl rfl
      ·intro w hF hS
       refine goW_take 0 _ rfl kQ rfl hF (hS.keep sQ (sQ.n.n.n.n.n.n.n)) (q_move rfl) ?_
       clear hF; intro a hF
       refine goW_take 1 _ rfl kQ rfl hF (hS.keep sQ (sQ.n.n.n.n.n.n.n)) (q_move rfl) ?_
       clear hF; intro a hF
       refine goW_take 2 _ rfl kQ rfl hF (hS.keep sQ (sQ.n.n.n.n.n.n.n)) (q_nilCheck rfl) ?_
       clear hF; intro a hF
       refine goW_take 3 _ rfl kQ rfl hF (hS.keep sQ (sQ.n.n.n.n.n.n.n)) (q_fieldAddr ty66 rfl rfl (s' := 0) kQ) ?_
       clear hF; intro a hF
       refine goW_take 4 _ rfl kQ rfl hF (hS.keep sQ (sQ.n.n.n.n.n.n)) (q_ld_blk1 ty51 0 rfl rfl rfl rfl) ?_
       clear hF; intro a hF
       refine goW_take 5 _ rfl kQ rfl hF (hS.keep sQ (sQ.n.n.n.n.n.n.n)) (q_fieldAddr ty102 rfl rfl (s' := 0) kQ) ?_
       clear hF; intro a hF
       refine goW_take 6 _ rfl kQ rfl hF (hS.keep sQ (sQ.n.n.n.n.n.n.k)) (q_ld_blk1 ty3 0 rfl rfl rfl rfl) ?_
       clear hF; intro a hF
       refine gQ 7 rfl rfl hF hS rfl (ef_bsliceA ty51 ty3 rfl rfl oQ (by decide) rfl rfl) ?_
       clear hF hS; rintro v_34_7 _ _ a w ⟨rfl, rfl⟩ hF hS
       replace hS : St _ (_ :: _) (_ :: _ :: _ :: _ :: _ :: _ :: _ :: _ :: _) _ := hS
       refine ⟨⟨iQ, iQ, .inr (hS.keep sQ (sQ.n.n.n.n.n.n.n)), .inr (hS.keep sQ (sQ.n.n.n.n.n.n.n.n)), .inr (hS.keep sQ (sQ.n.n.n.n.n.n.n.n)), .inr (hS.keep sQ (sQ.n.n.n.n.n.n.n.n)), .inr (hS.keep sQ (sQ.n.n.n.n.n.n.n.n)), trivial⟩, ?_⟩
       refine gQ 8 rfl rfl hF hS rfl (ef_append ty51 ty3 4 rfl rfl rfl (src_row ty51 (k := 0) rfl oQ) bQ rfl (by decide)) ?_
       clear hF hS; rintro v_34_8 _ _ a w ⟨rfl, rfl⟩ hF hS
       replace hS : St _ (_ :: _) (_ :: _ :: _ :: _ :: _ :: _ :: _ :: _ :: _) _ := hS
       refine ⟨⟨iQ, iQ, iQ, iQ, .inr (hS.keep sQ (sQ.n.n.n.n.n.n.n.n)), .inr (hS.keep sQ (sQ.n.n.n.n.n.n.n.n)), .inr (hS.keep sQ (sQ.n.n.n.n.n.n.n.n)), trivial⟩, ?_⟩
       refine goW_take 9 _ rfl kQ rfl hF (hS.keep sQ (sQ.n.n.n.n.n.n.n.n)) (q_nilCheck rfl) ?_
       clear hF; intro a hF
       refine goW_take 10 _ rfl kQ rfl hF (hS.keep sQ (sQ.n.n.n.n.n.n.n.n)) (q_fieldAddr ty66 rfl rfl (s' := 0) kQ) ?_
       clear hF; intro a hF
       refine gQ 11 rfl rfl hF hS rfl (ef_store1 ty51 7 rfl rfl rfl (row_one (hS.own _ (List.mem_of_getElem? (i := 4) rfl)).1) (by simp)) ?_
       clear hF hS; rintro _ _ _ a w ⟨rfl, rfl, rfl⟩ hF hS
       replace hS : St _ (_ :: _) (_ :: _ :: _ :: _ :: _ :: _ :: _ :: .blk _ _ ([_, _, _, _, _, _, _].set 1 _) :: _) _ := hS
       simp only [List.set_cons_zero, List.set_cons_succ] at hS
       replace hS : St _ (_ :: _) (_ :: _ :: _ :: _ :: _ :: _ :: _ :: _ :: _) _ := hS
       refine ⟨⟨iQ, iQ, iQ, iQ, iQ, iQ, iQ, iQ, iQ, trivial⟩, ?_⟩
       exact goW_done kQ (j2_mk v_34_7 v_34_8 (trivial) (hF.sub (L' := [(4, _), (5, _), (11, _), (13, _), (14, _)]) ⟨rfl, rfl, rfl, rfl, rfl, trivial⟩) hS)
      rintro a w ⟨v_34_7, v_34_8, -, hF, hS⟩
      (try dsimp only at hF); (try dsimp only at hS)
      refine hK46 _ _ ?_
      clear hK46
      refine regl ?_
      refine wpl_sq hF hS (sq rfl (q_move rfl) <|
        sq rfl (q_move rfl) <|
        sq rfl (q_nilCheck rfl) <|
        sq rfl (q_fieldAddr ty66 rfl rfl (s' := 0) kQ) <|
        sq rfl (q_ld_blk1 ty22 7 rfl rfl rfl rfl) <|
        sq rfl (q_move rfl) <|
        sq_end) ?_
      clear hF hS; intro a w hF hS
      refine wpl_ef hF hS rfl (ef_bsliceA ty22 ty9 rfl rfl oQ (by decide) rfl rfl) ?_
      clear hF hS; rintro v16 _ _ a w ⟨rfl, rfl⟩ hF hS
      replace hS : St _ (_ :: _) (_ :: _ :: _ :: _ :: _ :: _ :: _ :: _ :: _ :: _) _ := hS
      refine wpl_ef hF hS rfl (ef_append ty22 ty9 7 rfl rfl rfl (src_row ty22 (k := 0) rfl oQ) bQ rfl (by decide)) ?_
      clear hF hS; rintro v18 _ _ a w ⟨rfl, rfl⟩ hF hS
      replace hS : St _ (_ :: _) (_ :: _ :: _ :: _ :: _ :: _ :: _ :: _ :: _ :: _) _ := hS
      refine wpl_sq hF hS (sq rfl (q_nilCheck rfl) <|
        sq rfl (q_fieldAddr ty66 rfl rfl (s' := 0) kQ) <|
        sq_end) ?_
      clear hF hS; intro a w hF hS
      refine wpl_ef hF hS rfl (ef_store1 ty22 8 rfl rfl rfl (row_one (hS.own _ (List.mem_of_getElem? (i := 7) rfl)).1) (by simp)) ?_
      clear hF hS; rintro _ _ _ a w ⟨rfl, rfl, rfl⟩ hF hS
      replace hS : St _ (_ :: _) (_ :: _ :: _ :: _ :: _ :: _ :: _ :: _ :: .blk _ _ ([_, _, _, _, _, _, _].set 2 _) :: _) _ := hS
      simp only [List.set_cons_zero, List.set_cons_succ] at hS
      replace hS : St _ (_ :: _) (_ :: _ :: _ :: _ :: _ :: _ :: _ :: _ :: _ :: _) _ := hS
      refine wpList_nil ?_
      refine hK44 _ _ ?_
      clear hK44
      refine reg hF hS (sq rfl (q_move rfl) <|
        sq rfl (q_move rfl) <|
        sq rfl (q_addi rfl rfl (by omega)) <|
        sq rfl (q_assign rfl) <|
        sq_end) ?_
      clear hF hS; intro a w hF hS
      replace hS := hS.keep sQ (sQ.n.n.n)
      refine ⟨(v_34_8, v18, (acc.1 ++ [((Jn.psN (Jn.rds S) S.s.length).getD m Jn.p0).n], acc.2 ++ [Jn.tx9 (Jn.psN (Jn.rds S) S.s.length) m i]), m + i), ?_, ?_, hF.sub ⟨(by first | rfl | (show some (vi _) = some (vi _); congr 2; omega)), rfl, rfl, trivial⟩, ?_⟩
      ·(try dsimp only); omega
      ·exact ⟨by omega, ⟨hacc.add (by omega) hnr hrt, by simp; omega⟩, by rw [← hscn, Jn.scan_some hrc, List.drop_drop]; unfold Jn.addR; rw [hgd, if_neg (by simpa using hc13)]⟩
      ·(try dsimp only [List.set_cons_zero, List.set_cons_succ])
       rw [List.length_append, List.length_append, List.map_append, List.map_append]
       exact hS
     ·refine wp_skip ?_
      refine hK44 _ _ ?_
      clear hK44
      refine reg hF hS (sq rfl (q_move rfl) <|
        sq rfl (q_move rfl) <|
        sq rfl (q_addi rfl rfl (by omega)) <|
        sq rfl (q_assign rfl) <|
        sq_end) ?_
      clear hF hS; intro a w hF hS
      replace hS := hS.keep sQ (sQ.n)
      refine ⟨(un, ut, acc, m + i), ?_, ?_, hF.sub ⟨(by first | rfl | (show some (vi _) = some (vi _); congr 2; omega)), rfl, rfl, trivial⟩, ?_⟩
      ·(try dsimp only); omega
      ·exact ⟨by omega, ⟨hacc.up (by omega), hab⟩, by rw [← hscn, Jn.scan_some hrc, List.drop_drop]; unfold Jn.addR; rw [hgd, if_pos (by simpa using hc13)]⟩
      ·exact hS
  ·refine wp_exit ?_
   refine hK26 _ _ ?_
   clear hK26
   refine wp_seq_k ?_; intro K47 hK47
   refine reg hF hS (sq rfl (q_move rfl) <|
     sq rfl (q_assign rfl) <|
     sq rfl (q_assign rfl) <|
     sq_end) ?_
   clear hF hS; intro a w hF hS
   refine hK47 _ _ ?_
   clear hK47
   refine wp_ret ?_
   replace hS := hS.perm (.cons _ (.cons _ (.cons _ (.cons _ (.swap _ _ _)))))
   replace hS := hS.perm (.cons _ (.cons _ (.cons _ (.swap _ _ _))))
   replace hS := hS.perm (.cons _ (.cons _ (.swap _ _ _)))
   replace hS := hS.perm (.cons _ (.swap _ _ _))
   replace hS := hS.perm (.swap _ _ _)
   replace hS := hS.perm (.cons _ (.cons _ (.swap _ _ _)))
   replace hS := hS.perm (.cons _ (.swap _ _ _))
   replace hS := hS.perm (.cons _ (.cons _ (.cons _ (.swap _ _ _))))
   replace hS := hS.perm (.cons _ (.cons _ (.swap _ _ _)))
   replace hS := hS.perm (.cons _ (.cons _ (.cons _ (.cons _ (.swap _ _ _)))))
   replace hS := hS.perm (.cons _ (.cons _ (.cons _ (.swap _ _ _))))
   obtain rfl : m = S.s.length := by omega
   exact fn_retx (rs := [.tmp 2, .tmp 3]) rfl hF hS (vs := [_, _]) ⟨rfl, rfl, trivial⟩ [] [_, _, _, _, _, _] (sQ.n) sQ ⟨rfl, b1, _, _, _, _, rfl, rfl, (by rw [Jn.opn_of hscn]; exact ⟨_, _, _, Jn.wf_opn hO hacc hab, rfl, rfl, rfl, rfl⟩)⟩
end Go.Proofs.YtibbhobfdbfkkaaGreatDoor
