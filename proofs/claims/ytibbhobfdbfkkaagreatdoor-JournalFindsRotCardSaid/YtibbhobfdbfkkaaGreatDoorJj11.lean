/- A text of a proof over this seat: walks over the program's functions and the plain laws that they need. -/
import Derived.Test.YtibbhobfdbfkkaaGreatDoorJj10
import Derived.Test.YtibbhobfdbfkkaaGreatDoorJnA
import Derived.Test.YtibbhobfdbfkkaaGreatDoorFwD
import Derived.Test.YtibbhobfdbfkkaaGreatDoorFwB
set_option linter.all false
namespace Go.Proofs.YtibbhobfdbfkkaaGreatDoor
open Go.Fw
theorem fn50 : FnOk Tryz.prog 50 := ⟨_, Tryz.func50, rfl, by kernel_rfl⟩
theorem fn51 : FnOk Tryz.prog 51 := ⟨_, Tryz.func51, rfl, by kernel_rfl⟩

attribute [local irreducible] Sha.sum Jn.good Jn.hd Jn.lb Jn.cnt Jn.unp Jn.recd

set_option maxRecDepth 4000 in
set_option maxHeartbeats 2000000 in
theorem open_ct (h : Dk.Hd) (S : Dk.Dsk) (hof : S.off = false) (w0 : World) (zsr : List PH) {d1 d2 d3 d4 : Res} {fz0 : Nat × Nat} {bt0 : TypeId} (hg0 : w0.heap[2]? = some (.cells (Sha.kc.map vw).toArray bt0 fz0)) (hD : DD h S d1 d2 d3 d4) : Cx Tryz.prog 12 [.pointer (some ⟨h.b, 0, none⟩)] w0 zsr [d1, d2, d3, d4] (fun r zs hs => zs = [] ∧ ∃ b q1 q2 q3 q4 e1 e2 e3 e4, r = .tuple [.pointer (some ⟨b, 0, none⟩), vi 0].toArray ∧ hs = [q1, q2, q3, q4, e1, e2, e3, e4] ∧ JJ b h.b (Jn.opn S) q1 q2 q3 q4 ∧ DD h S e1 e2 e3 e4) := by
 refine fn_enterx Tryz.func12 rfl Tryz.ntmps12 (Nat.le_of_ble_eq_true rfl) fun hsr a w hF hS => ?_
 replace hS : St _ (_) (_ :: _ :: _ :: _ :: _) _ := hS
 have hO := Dk.DOk.ok hD
 have hlo := hO.lo
 have hhi := hO.hi
 have hrl := Jn.rds_len S
 refine wp_seq_k ?_; intro K1 hK1
 refine reg hF hS (sq rfl (q_assign rfl) <|
   sq rfl (q_assign rfl) <|
   sq_end) ?_
 clear hF hS; intro a w hF hS
 refine hK1 _ _ ?_
 clear hK1
 refine wp_seq_k ?_; intro K2 hK2
 refine regl ?_
 refine wpl_sq hF hS (sq rfl (q_move rfl) <|
   sq rfl (q_buildP (places := [(0, 1), (1, 1), (2, 1), (3, 1), (4, 1), (5, 1), (6, 1)]) (cells := [_, .slice none 0 0, .slice none 0 0, .slice none 0 0, _, .int .i64 0, .bool false]) ty89 kQ rfl (by rfl)) <|
   sq_end) ?_
 clear hF hS; intro a w hF hS
 refine wpl_ef hF hS rfl (ef_boxA rfl) ?_
 clear hF hS; rintro _ _ _ a w ⟨b1, rfl, rfl, rfl⟩ hF hS
 refine wpl_sq hF hS (sq rfl (q_assign rfl) <|
   sq_end) ?_
 clear hF hS; intro a w hF hS
 refine wpList_nil ?_
 replace hS := hS.nilRow 9 1
 replace hS := hS.nilRow 3 1
 replace hS := hS.nilRow 3 1
 replace hS : St _ (_) (_ :: _ :: _ :: _ :: _ :: _ :: _ :: _ :: _) _ := hS
 refine hK2 _ _ ?_
 clear hK2
 refine wp_seq_k ?_; intro K3 hK3
 refine reg hF hS (sq rfl (q_assign rfl) <|
   sq_end) ?_
 clear hF hS; intro a w hF hS
 replace hS := hS.nilRow 94 5
 replace hS : St _ (_) (_ :: _ :: _ :: _ :: _ :: _ :: _ :: _ :: _ :: _) _ := hS
 refine hK3 _ _ ?_
 clear hK3
 refine wp_seq_k ?_; intro K4 hK4
 refine wp_seq_k ?_; intro K5 hK5
 refine regl ?_
 refine wpl_sq hF hS (sq rfl (q_move rfl) <|
   sq_end) ?_
 clear hF hS; intro a w hF hS
 replace hS := hS.perm (.cons _ (.cons _ (.cons _ (.cons _ (.swap _ _ _)))))
 replace hS := hS.perm (.cons _ (.cons _ (.cons _ (.swap _ _ _))))
 replace hS := hS.perm (.cons _ (.cons _ (.swap _ _ _)))
 replace hS := hS.perm (.cons _ (.swap _ _ _))
 replace hS := hS.perm (.swap _ _ _)
 replace hS := hS.perm (.cons _ (.cons _ (.cons _ (.cons _ (.cons _ (.swap _ _ _))))))
 replace hS := hS.perm (.cons _ (.cons _ (.cons _ (.cons _ (.swap _ _ _)))))
 replace hS := hS.perm (.cons _ (.cons _ (.cons _ (.swap _ _ _))))
 replace hS := hS.perm (.cons _ (.cons _ (.swap _ _ _)))
 replace hS := hS.perm (.cons _ (.swap _ _ _))
 replace hS := hS.perm (.cons _ (.cons _ (.cons _ (.cons _ (.cons _ (.cons _ (.swap _ _ _)))))))
 replace hS := hS.perm (.cons _ (.cons _ (.cons _ (.cons _ (.cons _ (.swap _ _ _))))))
 replace hS := hS.perm (.cons _ (.cons _ (.cons _ (.cons _ (.swap _ _ _)))))
 replace hS := hS.perm (.cons _ (.cons _ (.cons _ (.swap _ _ _))))
 replace hS := hS.perm (.cons _ (.cons _ (.swap _ _ _)))
 replace hS := hS.perm (.cons _ (.cons _ (.cons _ (.cons _ (.cons _ (.cons _ (.cons _ (.swap _ _ _))))))))
 replace hS := hS.perm (.cons _ (.cons _ (.cons _ (.cons _ (.cons _ (.cons _ (.swap _ _ _)))))))
 replace hS := hS.perm (.cons _ (.cons _ (.cons _ (.cons _ (.cons _ (.swap _ _ _))))))
 replace hS := hS.perm (.cons _ (.cons _ (.cons _ (.cons _ (.swap _ _ _)))))
 replace hS := hS.perm (.cons _ (.cons _ (.cons _ (.swap _ _ _))))
 replace hS : St _ (_) (_ :: _ :: _ :: _ :: _ :: _ :: _ :: _ :: _ :: _) _ := hS
 refine wpl_ef hF hS rfl (ef_callx fn47 rfl (List.Perm.refl _) (by exact (dlen_ct _ _ _ _  hD))) ?_
 clear hF hS; rintro _ _ _ a w ⟨_, _, rfl, rfl, ⟨rfl, rfl, qa3, qb4, qc5, qd6, rfl, hD7⟩⟩ hF hS
 replace hS : St _ (_) (_ :: _ :: _ :: _ :: _ :: _ :: _ :: _ :: _ :: _) _ := hS
 refine wpl_sq hF hS (sq rfl (q_move rfl) <|
   sq_end) ?_
 clear hF hS; intro a w hF hS
 refine wpList_nil ?_
 refine hK5 _ _ ?_
 clear hK5
 refine wp_block ?_
 obtain ⟨hs0, hhs0, hS⟩ : ∃ h, h = _ ∧ St _ _ h _ := ⟨_, rfl, hS⟩
 refine wp_loopx (γ := Res × Res × Res × Res × Value × Value × Nat) (qa3, qb4, qc5, qd6, (Value.slice none 0 0), (Value.slice none 0 0), 0) (fun (gg : Res × Res × Res × Res × Value × Value × Nat) => match gg with | (q1, q2, q3, q4, ub, ul, k) => [(5, ul), (20, vi (k : Int))]) [(0, _), (4, _), (19, _)] (fun (gg : Res × Res × Res × Res × Value × Value × Nat) => match gg with | (q1, q2, q3, q4, ub, ul, k) => (((((((hs0.set 0 (q1)).set 1 (q2)).set 2 (q3)).set 3 (q4)).set 8 (.blk b1 89 [.pointer (some ⟨h.b, 0, none⟩), (Value.slice none 0 0), ub, (Value.slice none 0 0), vi (Jn.nxN (Jn.rds S) k), vi (Jn.enN (Jn.rds S) k), .bool false])).set 6 (.row ub 3 1 (Jn.badN (Jn.rds S) k).length ((Jn.badN (Jn.rds S) k).map vi))).set 4 (.row ul 94 5 k ((Jn.psN (Jn.rds S) k).flatMap Jn.ptC)))) (fun (gg : Res × Res × Res × Res × Value × Value × Nat) => match gg with | (q1, q2, q3, q4, ub, ul, k) => k ≤ S.s.length ∧ DD h S q1 q2 q3 q4) (fun (gg : Res × Res × Res × Res × Value × Value × Nat) => match gg with | (q1, q2, q3, q4, ub, ul, k) => S.s.length - k) (hF.sub ⟨rfl, rfl, rfl, rfl, rfl, trivial⟩) (by subst hhs0; exact hS) (by exact ⟨Nat.zero_le _, hD7⟩) ?_
 clear hF hS; rintro ⟨q1, q2, q3, q4, ub, ul, k⟩ a w hfact hF hS
 subst hhs0; (try dsimp only at hfact); (try dsimp only at hF); (try dsimp only at hS)
 obtain ⟨hk0, hDq⟩ := hfact
 replace hS : St _ (_) (_ :: _ :: _ :: _ :: _ :: _ :: _ :: _ :: _ :: _) _ := hS
 obtain ⟨hb1, hb2⟩ := Jn.bad_rng (Jn.rds S) k
 have hnx := Jn.nx_rng (Jn.rds S) k
 have hn9 := (Jn.unp_ok (Dk.read S (k : Int)).1).1
 refine wp_seq_k ?_; intro K6 hK6
 refine reg hF hS (sq rfl (q_lti rfl rfl) <|
   sq_end) ?_
 clear hF hS; intro a w hF hS
 refine hK6 _ _ ?_
 clear hK6
 refine wp_seq_k ?_; intro K7 hK7
 refine wp_ifd hF rfl (fun hc1 => ?_) (fun hc1 => ?_)
 ·obtain ⟨hrd0, hrd64⟩ := Jn.read_ok hO hof (k := k) (by omega)
  refine wp_skip ?_
  refine hK7 _ _ ?_
  clear hK7
  refine wp_seq_k ?_; intro K8 hK8
  refine wp_block ?_
  refine wp_seq_k ?_; intro K9 hK9
  refine reg hF hS (sq rfl (q_move rfl) <|
    sq rfl (q_assign rfl) <|
    sq_end) ?_
  clear hF hS; intro a w hF hS
  refine hK9 _ _ ?_
  clear hK9
  refine wp_seq_k ?_; intro K10 hK10
  refine regl ?_
  refine wpl_sq hF hS (sq rfl (q_move rfl) <|
    sq rfl (q_move rfl) <|
    sq_end) ?_
  clear hF hS; intro a w hF hS
  refine wpl_ef hF hS rfl (ef_callx fn48 rfl (List.Perm.refl _) (by exact (dread_ct _ _ _ (by omega) _ _  hDq))) ?_
  clear hF hS; rintro _ _ _ a w ⟨_, _, rfl, rfl, ⟨rfl, rfl, qa9, qb10, qc11, qd12, rfl, hD13⟩⟩ hF hS
  replace hS : St _ (_) (_ :: _ :: _ :: _ :: _ :: _ :: _ :: _ :: _ :: _) _ := hS
  refine wpl_sq hF hS (sq rfl (q_move rfl) <|
    sq rfl (q_extract rfl rfl) <|
    sq rfl (q_extract rfl rfl) <|
    sq rfl (q_assign rfl) <|
    sq rfl (q_assign rfl) <|
    sq_end) ?_
  clear hF hS; intro a w hF hS
  refine wpList_nil ?_
  refine hK10 _ _ ?_
  clear hK10
  refine wp_seq_k ?_; intro K11 hK11
  refine wp_seq_k ?_; intro K12 hK12
  refine reg hF hS (sq rfl (q_move rfl) <|
    sq rfl (q_nei rfl rfl) <|
    sq_end) ?_
  clear hF hS; intro a w hF hS
  refine hK12 _ _ ?_
  clear hK12
  refine wp_ifn hF rfl (fun hc2 => ?_) (fun hc2 => ?_)
  ·exact absurd hrd0 hc2
  ·refine wp_skip ?_
   refine hK11 _ _ ?_
   clear hK11
   refine wp_seq_k ?_; intro K13 hK13
   refine regl ?_
   refine wpl_sq hF hS (sq rfl (q_move rfl) <|
     sq rfl (q_call fn49 rfl (fun w hS => unpack_ct _ w (hS.ext _ _ hg0)) (fun _ _ _ h => h)) <|
     sq_end) ?_
   clear hF hS; intro a w hF hS
   refine wpl_ef hF hS rfl (ef_allocA ty94) ?_
   clear hF hS; rintro _ _ _ a w ⟨b14, rfl, rfl, rfl⟩ hF hS
   refine wpl_ef hF hS rfl (ef_storeW ty94 0 rfl rfl rfl rfl bQ (oc_cons rfl (oc_cons rfl (oc_cons rfl (oc_cons rfl (oc_cons rfl oc_nil))))) bQ) ?_
   clear hF hS; rintro _ _ _ a w ⟨rfl, rfl, rfl⟩ hF hS
   replace hS : St _ (_) (_ :: _ :: _ :: _ :: _ :: _ :: _ :: _ :: _ :: _ :: _) _ := hS
   refine wpList_nil ?_
   refine hK13 _ _ ?_
   clear hK13
   refine wp_seq_k ?_; intro K14 hK14
   refine regl ?_
   refine wpl_sq hF hS (sq rfl (q_move rfl) <|
     sq rfl (q_ld_blkW ty94 0 rfl rfl bQ rfl) <|
     sq_end) ?_
   clear hF hS; intro a w hF hS
   refine wpl_ef hF hS rfl (ef_bsliceW ty90 ty94 rfl bQ (by decide) oQ (by decide) (by decide)) ?_
   clear hF hS; rintro v15 _ _ a w ⟨rfl, rfl⟩ hF hS
   replace hS : St _ (_) (_ :: _ :: _ :: _ :: _ :: _ :: _ :: _ :: _ :: _ :: _ :: _) _ := hS
   refine wpl_ef hF hS rfl (ef_append ty90 ty94 6 rfl rfl rfl (src_row ty90 (k := 0) rfl oQ) bQ rfl (by decide)) ?_
   clear hF hS; rintro v17 _ _ a w ⟨rfl, rfl⟩ hF hS
   replace hS : St _ (_) (_ :: _ :: _ :: _ :: _ :: _ :: _ :: _ :: _ :: _ :: _ :: _) _ := hS
   refine wpl_sq hF hS (sq rfl (q_assign rfl) <|
     sq_end) ?_
   clear hF hS; intro a w hF hS
   refine wpList_nil ?_
   refine hK14 _ _ ?_
   clear hK14
   refine wp_seq_k ?_; intro K15 hK15
   refine regl ?_
   refine wpl_sq hF hS (sq rfl (q_move rfl) <|
     sq rfl (q_len_s ty9 rfl) <|
     sq rfl (q_dt (q_eqi rfl rfl) (by simp [hrd64])) <|
     sq rfl (q_move rfl) <|
     sq_go 41 rfl rfl rfl (q_move rfl) <|
     sq_end) ?_
   clear hF hS; intro a w hF hS
   refine wpl_efg hF hS (wanted_go 41 rfl rfl) rfl (ef_s2b ty9 ty81 ty5 rfl (by omega)) ?_
   clear hF hS; rintro v18 _ _ a w ⟨z19, rfl, rfl, hz20⟩ hF hS
   refine wpl_sq hF hS (sq_go 41 rfl rfl rfl (q_s2ap_sl ty96 hz20 rfl bQ (by decide)) <|
     sq_go 41 rfl rfl rfl (q_ld_B16 ty96 hz20 (.inr (by simp)) rfl rfl bQ (by decide)) <|
     sq_go 41 rfl rfl rfl (q_build rfl (run_build_arr ty96 ty5 rfl)) <|
     sq_go 41 rfl rfl rfl (q_eqAB (ys := Jn.z64) ty96 ty5 kQ rfl rfl (by omega) (by decide)) <|
     sq rfl (q_pick_t rfl rfl) <|
     sq rfl (q_assign rfl) <|
     sq_end) ?_
   clear hF hS; intro a w hF hS
   refine wpList_nil ?_
   refine hK15 _ _ ?_
   clear hK15
   refine wp_seq_k ?_; intro K16 hK16
   refine wp_seq_k ?_; intro K17 hK17
   refine reg hF hS (sq rfl (q_move rfl) <|
     sq rfl (q_not rfl) <|
     sq_end) ?_
   clear hF hS; intro a w hF hS
   refine hK17 _ _ ?_
   clear hK17
   refine wp_ifn hF rfl (fun hc3 => ?_) (fun hc3 => ?_)
   ·refine regl ?_
    refine wpl_sq hF hS (sq rfl (q_move rfl) <|
      sq rfl (q_move rfl) <|
      sq rfl (q_addi rfl rfl (by omega)) <|
      sq rfl (q_nilCheck rfl) <|
      sq rfl (q_fieldAddr ty89 rfl rfl (s' := 0) kQ) <|
      sq_end) ?_
    clear hF hS; intro a w hF hS
    refine wpl_ef hF hS rfl (ef_store1 ty3 10 rfl rfl rfl rfl (by simp)) ?_
    clear hF hS; rintro _ _ _ a w ⟨rfl, rfl, rfl⟩ hF hS
    replace hS : St _ (_ :: _) (_ :: _ :: _ :: _ :: _ :: _ :: _ :: _ :: _ :: _ :: .blk _ _ ([_, _, _, _, _, _, _].set 5 _) :: _) _ := hS
    simp only [List.set_cons_zero, List.set_cons_succ] at hS
    replace hS : St _ (_ :: _) (_ :: _ :: _ :: _ :: _ :: _ :: _ :: _ :: _ :: _ :: _ :: _) _ := hS
    refine wpList_nil ?_
    refine hK16 _ _ ?_
    clear hK16
    refine wp_seq_k ?_; intro K18 hK18
    refine wp_seq_k ?_; intro K19 hK19
    refine regl ?_
    refine wpl_sq hF hS (sq rfl (q_fieldAddr ty94 rfl rfl (s' := 0) kQ) <|
      sq rfl (q_ld_blk1 ty4 1 rfl rfl rfl rfl) <|
      sq rfl (q_not rfl) <|
      sq rfl (q_move rfl) <|
      sq_end) ?_
    clear hF hS; intro a w hF hS
    refine wpl_and 3 59 2 hF hS rfl rfl rfl rfl rfl (fun hg => have hg := hg; sq_go 59 rfl rfl rfl (q_move rfl) <|
      sq_go 59 rfl rfl rfl (q_not rfl) <|
      sq_end) rfl rfl ?_
    clear hF hS; intro a w hF hS
    refine wpList_nil ?_
    refine hK19 _ _ ?_
    clear hK19
    refine wp_if hF rfl (fun hc4 => ?_) (fun hc4 => ?_)
    ·(try simp only [Bool.or_eq_true, Bool.and_eq_true, Bool.or_eq_false_iff, Bool.and_eq_false_iff, decide_eq_true_eq, decide_eq_false_iff_not, Bool.not_eq_true', Bool.not_eq_false'] at hc4)
     refine regl ?_
     refine wpl_sq hF hS (sq rfl (q_move rfl) <|
       sq rfl (q_move rfl) <|
       sq rfl (q_nilCheck rfl) <|
       sq rfl (q_fieldAddr ty89 rfl rfl (s' := 0) kQ) <|
       sq rfl (q_ld_blk1 ty51 10 rfl rfl rfl rfl) <|
       sq rfl (q_move rfl) <|
       sq_end) ?_
     clear hF hS; intro a w hF hS
     refine wpl_ef hF hS rfl (ef_bsliceA ty51 ty3 rfl rfl oQ (by decide) rfl rfl) ?_
     clear hF hS; rintro v21 _ _ a w ⟨rfl, rfl⟩ hF hS
     replace hS : St _ (_ :: _) (_ :: _ :: _ :: _ :: _ :: _ :: _ :: _ :: _ :: _ :: _ :: _ :: _) _ := hS
     refine wpl_ef hF hS rfl (ef_append ty51 ty3 9 rfl rfl rfl (src_row ty51 (k := 0) rfl oQ) bQ rfl (by decide)) ?_
     clear hF hS; rintro v23 _ _ a w ⟨rfl, rfl⟩ hF hS
     replace hS : St _ (_ :: _) (_ :: _ :: _ :: _ :: _ :: _ :: _ :: _ :: _ :: _ :: _ :: _ :: _) _ := hS
     refine wpl_sq hF hS (sq rfl (q_nilCheck rfl) <|
       sq rfl (q_fieldAddr ty89 rfl rfl (s' := 0) kQ) <|
       sq_end) ?_
     clear hF hS; intro a w hF hS
     refine wpl_ef hF hS rfl (ef_store1 ty51 11 rfl rfl rfl (row_one (hS.own _ (List.mem_of_getElem? (i := 9) rfl)).1) (by simp)) ?_
     clear hF hS; rintro _ _ _ a w ⟨rfl, rfl, rfl⟩ hF hS
     replace hS : St _ (_ :: _) (_ :: _ :: _ :: _ :: _ :: _ :: _ :: _ :: _ :: _ :: _ :: .blk _ _ ([_, _, _, _, _, _, _].set 2 _) :: _) _ := hS
     simp only [List.set_cons_zero, List.set_cons_succ] at hS
     replace hS : St _ (_ :: _) (_ :: _ :: _ :: _ :: _ :: _ :: _ :: _ :: _ :: _ :: _ :: _ :: _) _ := hS
     refine wpList_nil ?_
     refine hK18 _ _ ?_
     clear hK18
     refine regt 11 mixed kQ hF hS (sq rfl (q_move rfl) <|
       sq rfl (q_move rfl) <|
       sq rfl (q_nilCheck rfl) <|
       sq rfl (q_fieldAddr ty89 rfl rfl (s' := 0) kQ) <|
       sq rfl (q_ld_blk1 ty3 11 rfl rfl rfl rfl) <|
       sq rfl (q_fieldAddr ty94 rfl rfl (s' := 0) kQ) <|
       sq rfl (q_ld_blk1 ty3 2 rfl rfl rfl rfl) <|
       sq rfl (q_addi rfl rfl (by omega)) <|
       sq rfl (q_max rfl rfl) <|
       sq rfl (q_nilCheck rfl) <|
       sq rfl (q_fieldAddr ty89 rfl rfl (s' := 0) kQ) <|
       sq_end) ?_
     clear hF hS; intro a w hF hS
     refine wpl_ef hF hS rfl (ef_store1 ty3 11 rfl rfl rfl rfl (by simp)) ?_
     clear hF hS; rintro _ _ _ a w ⟨rfl, rfl, rfl⟩ hF hS
     replace hS : St _ (_ :: _) (_ :: _ :: _ :: _ :: _ :: _ :: _ :: _ :: _ :: _ :: _ :: .blk _ _ ([_, _, _, _, _, _, _].set 4 _) :: _) _ := hS
     simp only [List.set_cons_zero, List.set_cons_succ] at hS
     replace hS : St _ (_ :: _) (_ :: _ :: _ :: _ :: _ :: _ :: _ :: _ :: _ :: _ :: _ :: _ :: _) _ := hS
     refine wpList_nil ?_
     refine hK8 _ _ ?_
     clear hK8
     refine reg hF hS (sq rfl (q_addi rfl rfl (by omega)) <|
       sq rfl (q_move rfl) <|
       sq_end) ?_
     clear hF hS; intro a w hF hS
     replace hS := hS.keep (sQ.n) (sQ.n.n.n)
     refine ⟨(qa9, qb10, qc11, qd12, v23, v17, k + 1), ?_, ?_, hF.sub ⟨rfl, rfl, rfl, rfl, rfl, trivial⟩, ?_⟩
     ·(try dsimp only); omega
     ·exact ⟨by omega, hD13⟩
     ·have hra := Jn.rds_at (S := S) (k := k) (by omega)
      (try dsimp only [List.set_cons_zero, List.set_cons_succ])
      rw [Jn.en_f (by rw [hra]; exact hc3), Jn.bad_t (by rw [hra]; exact hc4), Jn.nx_s, ← Jn.psN_step (by omega), hra, List.length_append, List.map_append]
      exact hS
    ·(try simp only [Bool.or_eq_true, Bool.and_eq_true, Bool.or_eq_false_iff, Bool.and_eq_false_iff, decide_eq_true_eq, decide_eq_false_iff_not, Bool.not_eq_true', Bool.not_eq_false'] at hc4)
     refine wp_skip ?_
     refine hK18 _ _ ?_
     clear hK18
     refine regt 11 mixed kQ hF hS (sq rfl (q_move rfl) <|
       sq rfl (q_move rfl) <|
       sq rfl (q_nilCheck rfl) <|
       sq rfl (q_fieldAddr ty89 rfl rfl (s' := 0) kQ) <|
       sq rfl (q_ld_blk1 ty3 10 rfl rfl rfl rfl) <|
       sq rfl (q_fieldAddr ty94 rfl rfl (s' := 0) kQ) <|
       sq rfl (q_ld_blk1 ty3 1 rfl rfl rfl rfl) <|
       sq rfl (q_addi rfl rfl (by omega)) <|
       sq rfl (q_max rfl rfl) <|
       sq rfl (q_nilCheck rfl) <|
       sq rfl (q_fieldAddr ty89 rfl rfl (s' := 0) kQ) <|
       sq_end) ?_
     clear hF hS; intro a w hF hS
     refine wpl_ef hF hS rfl (ef_store1 ty3 10 rfl rfl rfl rfl (by simp)) ?_
     clear hF hS; rintro _ _ _ a w ⟨rfl, rfl, rfl⟩ hF hS
     replace hS : St _ (_ :: _) (_ :: _ :: _ :: _ :: _ :: _ :: _ :: _ :: _ :: _ :: .blk _ _ ([_, _, _, _, _, _, _].set 4 _) :: _) _ := hS
     simp only [List.set_cons_zero, List.set_cons_succ] at hS
     replace hS : St _ (_ :: _) (_ :: _ :: _ :: _ :: _ :: _ :: _ :: _ :: _ :: _ :: _ :: _) _ := hS
     refine wpList_nil ?_
     refine hK8 _ _ ?_
     clear hK8
     refine reg hF hS (sq rfl (q_addi rfl rfl (by omega)) <|
       sq rfl (q_move rfl) <|
       sq_end) ?_
     clear hF hS; intro a w hF hS
     replace hS := hS.keep (sQ.n) (sQ.n.n)
     refine ⟨(qa9, qb10, qc11, qd12, ub, v17, k + 1), ?_, ?_, hF.sub ⟨rfl, rfl, rfl, rfl, rfl, trivial⟩, ?_⟩
     ·(try dsimp only); omega
     ·exact ⟨by omega, hD13⟩
     ·have hra := Jn.rds_at (S := S) (k := k) (by omega)
      (try dsimp only [List.set_cons_zero, List.set_cons_succ])
      rw [Jn.en_f (by rw [hra]; exact hc3), Jn.bad_f (by rw [hra]; intro hq; rcases hc4 with h9 | h9; (rw [h9] at hq; exact absurd hq.1 (by simp)); exact hq.2 h9), Jn.nx_s, ← Jn.psN_step (by omega), hra]
      exact hS
   ·refine wp_skip ?_
    refine hK16 _ _ ?_
    clear hK16
    refine wp_seq_k ?_; intro K20 hK20
    refine wp_seq_k ?_; intro K21 hK21
    refine regl ?_
    refine wpl_sq hF hS (sq rfl (q_fieldAddr ty94 rfl rfl (s' := 0) kQ) <|
      sq rfl (q_ld_blk1 ty4 1 rfl rfl rfl rfl) <|
      sq rfl (q_not rfl) <|
      sq rfl (q_move rfl) <|
      sq_end) ?_
    clear hF hS; intro a w hF hS
    refine wpl_and 3 59 2 hF hS rfl rfl rfl rfl rfl (fun hg => have hg := hg; sq_go 59 rfl rfl rfl (q_move rfl) <|
      sq_go 59 rfl rfl rfl (q_not rfl) <|
      sq_end) rfl rfl ?_
    clear hF hS; intro a w hF hS
    refine wpList_nil ?_
    refine hK21 _ _ ?_
    clear hK21
    refine wp_if hF rfl (fun hc5 => ?_) (fun hc5 => ?_)
    ·(try simp only [Bool.or_eq_true, Bool.and_eq_true, Bool.or_eq_false_iff, Bool.and_eq_false_iff, decide_eq_true_eq, decide_eq_false_iff_not, Bool.not_eq_true', Bool.not_eq_false'] at hc5)
     refine regl ?_
     refine wpl_sq hF hS (sq rfl (q_move rfl) <|
       sq rfl (q_move rfl) <|
       sq rfl (q_nilCheck rfl) <|
       sq rfl (q_fieldAddr ty89 rfl rfl (s' := 0) kQ) <|
       sq rfl (q_ld_blk1 ty51 10 rfl rfl rfl rfl) <|
       sq rfl (q_move rfl) <|
       sq_end) ?_
     clear hF hS; intro a w hF hS
     refine wpl_ef hF hS rfl (ef_bsliceA ty51 ty3 rfl rfl oQ (by decide) rfl rfl) ?_
     clear hF hS; rintro v24 _ _ a w ⟨rfl, rfl⟩ hF hS
     replace hS : St _ (_ :: _) (_ :: _ :: _ :: _ :: _ :: _ :: _ :: _ :: _ :: _ :: _ :: _ :: _) _ := hS
     refine wpl_ef hF hS rfl (ef_append ty51 ty3 9 rfl rfl rfl (src_row ty51 (k := 0) rfl oQ) bQ rfl (by decide)) ?_
     clear hF hS; rintro v26 _ _ a w ⟨rfl, rfl⟩ hF hS
     replace hS : St _ (_ :: _) (_ :: _ :: _ :: _ :: _ :: _ :: _ :: _ :: _ :: _ :: _ :: _ :: _) _ := hS
     refine wpl_sq hF hS (sq rfl (q_nilCheck rfl) <|
       sq rfl (q_fieldAddr ty89 rfl rfl (s' := 0) kQ) <|
       sq_end) ?_
     clear hF hS; intro a w hF hS
     refine wpl_ef hF hS rfl (ef_store1 ty51 11 rfl rfl rfl (row_one (hS.own _ (List.mem_of_getElem? (i := 9) rfl)).1) (by simp)) ?_
     clear hF hS; rintro _ _ _ a w ⟨rfl, rfl, rfl⟩ hF hS
     replace hS : St _ (_ :: _) (_ :: _ :: _ :: _ :: _ :: _ :: _ :: _ :: _ :: _ :: _ :: .blk _ _ ([_, _, _, _, _, _, _].set 2 _) :: _) _ := hS
     simp only [List.set_cons_zero, List.set_cons_succ] at hS
     replace hS : St _ (_ :: _) (_ :: _ :: _ :: _ :: _ :: _ :: _ :: _ :: _ :: _ :: _ :: _ :: _) _ := hS
     refine wpList_nil ?_
     refine hK20 _ _ ?_
     clear hK20
     refine regt 11 mixed kQ hF hS (sq rfl (q_move rfl) <|
       sq rfl (q_move rfl) <|
       sq rfl (q_nilCheck rfl) <|
       sq rfl (q_fieldAddr ty89 rfl rfl (s' := 0) kQ) <|
       sq rfl (q_ld_blk1 ty3 11 rfl rfl rfl rfl) <|
       sq rfl (q_fieldAddr ty94 rfl rfl (s' := 0) kQ) <|
       sq rfl (q_ld_blk1 ty3 2 rfl rfl rfl rfl) <|
       sq rfl (q_addi rfl rfl (by omega)) <|
       sq rfl (q_max rfl rfl) <|
       sq rfl (q_nilCheck rfl) <|
       sq rfl (q_fieldAddr ty89 rfl rfl (s' := 0) kQ) <|
       sq_end) ?_
     clear hF hS; intro a w hF hS
     refine wpl_ef hF hS rfl (ef_store1 ty3 11 rfl rfl rfl rfl (by simp)) ?_
     clear hF hS; rintro _ _ _ a w ⟨rfl, rfl, rfl⟩ hF hS
     replace hS : St _ (_ :: _) (_ :: _ :: _ :: _ :: _ :: _ :: _ :: _ :: _ :: _ :: _ :: .blk _ _ ([_, _, _, _, _, _, _].set 4 _) :: _) _ := hS
     simp only [List.set_cons_zero, List.set_cons_succ] at hS
     replace hS : St _ (_ :: _) (_ :: _ :: _ :: _ :: _ :: _ :: _ :: _ :: _ :: _ :: _ :: _ :: _) _ := hS
     refine wpList_nil ?_
     refine hK8 _ _ ?_
     clear hK8
     refine reg hF hS (sq rfl (q_addi rfl rfl (by omega)) <|
       sq rfl (q_move rfl) <|
       sq_end) ?_
     clear hF hS; intro a w hF hS
     replace hS := hS.keep (sQ.n) (sQ.n.n.n)
     refine ⟨(qa9, qb10, qc11, qd12, v26, v17, k + 1), ?_, ?_, hF.sub ⟨rfl, rfl, rfl, rfl, rfl, trivial⟩, ?_⟩
     ·(try dsimp only); omega
     ·exact ⟨by omega, hD13⟩
     ·have hra := Jn.rds_at (S := S) (k := k) (by omega)
      (try dsimp only [List.set_cons_zero, List.set_cons_succ])
      rw [Jn.en_t (by rw [hra]; exact hc3), Jn.bad_t (by rw [hra]; exact hc5), Jn.nx_s, ← Jn.psN_step (by omega), hra, List.length_append, List.map_append]
      exact hS
    ·(try simp only [Bool.or_eq_true, Bool.and_eq_true, Bool.or_eq_false_iff, Bool.and_eq_false_iff, decide_eq_true_eq, decide_eq_false_iff_not, Bool.not_eq_true', Bool.not_eq_false'] at hc5)
     refine wp_skip ?_
     refine hK20 _ _ ?_
     clear hK20
     refine regt 11 mixed kQ hF hS (sq rfl (q_move rfl) <|
       sq rfl (q_move rfl) <|
       sq rfl (q_nilCheck rfl) <|
       sq rfl (q_fieldAddr ty89 rfl rfl (s' := 0) kQ) <|
       sq rfl (q_ld_blk1 ty3 10 rfl rfl rfl rfl) <|
       sq rfl (q_fieldAddr ty94 rfl rfl (s' := 0) kQ) <|
       sq rfl (q_ld_blk1 ty3 1 rfl rfl rfl rfl) <|
       sq rfl (q_addi rfl rfl (by omega)) <|
       sq rfl (q_max rfl rfl) <|
       sq rfl (q_nilCheck rfl) <|
       sq rfl (q_fieldAddr ty89 rfl rfl (s' := 0) kQ) <|
       sq_end) ?_
     clear hF hS; intro a w hF hS
     refine wpl_ef hF hS rfl (ef_store1 ty3 10 rfl rfl rfl rfl (by simp)) ?_
     clear hF hS; rintro _ _ _ a w ⟨rfl, rfl, rfl⟩ hF hS
     replace hS : St _ (_ :: _) (_ :: _ :: _ :: _ :: _ :: _ :: _ :: _ :: _ :: _ :: .blk _ _ ([_, _, _, _, _, _, _].set 4 _) :: _) _ := hS
     simp only [List.set_cons_zero, List.set_cons_succ] at hS
     replace hS : St _ (_ :: _) (_ :: _ :: _ :: _ :: _ :: _ :: _ :: _ :: _ :: _ :: _ :: _) _ := hS
     refine wpList_nil ?_
     refine hK8 _ _ ?_
     clear hK8
     refine reg hF hS (sq rfl (q_addi rfl rfl (by omega)) <|
       sq rfl (q_move rfl) <|
       sq_end) ?_
     clear hF hS; intro a w hF hS
     replace hS := hS.keep (sQ.n) (sQ.n.n)
     refine ⟨(qa9, qb10, qc11, qd12, ub, v17, k + 1), ?_, ?_, hF.sub ⟨rfl, rfl, rfl, rfl, rfl, trivial⟩, ?_⟩
     ·(try dsimp only); omega
     ·exact ⟨by omega, hD13⟩
     ·have hra := Jn.rds_at (S := S) (k := k) (by omega)
      (try dsimp only [List.set_cons_zero, List.set_cons_succ])
      rw [Jn.en_t (by rw [hra]; exact hc3), Jn.bad_f (by rw [hra]; intro hq; rcases hc5 with h9 | h9; (rw [h9] at hq; exact absurd hq.1 (by simp)); exact hq.2 h9), Jn.nx_s, ← Jn.psN_step (by omega), hra]
      exact hS
 ·obtain rfl : k = S.s.length := by omega
  refine wp_exit ?_
  refine hK4 _ _ ?_
  clear hK4
  refine wp_seq_k ?_; intro K22 hK22
  refine wp_seq_k ?_; intro K23 hK23
  refine reg hF hS (sq rfl (q_assign rfl) <|
    sq_end) ?_
  clear hF hS; intro a w hF hS
  replace hS := hS.perm (.cons _ (.cons _ (.cons _ (.swap _ _ _))))
  replace hS := hS.perm (.cons _ (.cons _ (.swap _ _ _)))
  replace hS := hS.perm (.cons _ (.swap _ _ _))
  replace hS := hS.perm (.swap _ _ _)
  obtain ⟨zp, hpl, hS⟩ := St.freezeK (hl := Jn.ptC_len) (h1 := Jn.ptC_one) (p := Jn.PtOk) (xs := (Jn.psN (Jn.rds S) S.s.length)) hS (by rw [Jn.psN_len (by omega)]) (by omega) Jn.psN_ok
  have hpn : (Jn.psN (Jn.rds S) S.s.length).length = S.s.length := Jn.psN_len (by omega)
  replace hS : St _ (_ :: _) (_ :: _ :: _ :: _ :: _ :: _ :: _ :: _ :: _) _ := hS
  refine hK23 _ _ ?_
  clear hK23
  refine wp_block ?_
  obtain ⟨hs0, hhs0, hS⟩ : ∃ h, h = _ ∧ St _ _ h _ := ⟨_, rfl, hS⟩
  refine wp_loopx (γ := Value × Value × Jn.Acc × Nat) ((Value.slice none 0 0), (Value.slice none 0 0), ([], []), 0) (fun (gg : Value × Value × Jn.Acc × Nat) => match gg with | (un, ut, acc, m) => [(11, vi (m : Int))]) [(4, _), (5, _)] (fun (gg : Value × Value × Jn.Acc × Nat) => match gg with | (un, ut, acc, m) => (((hs0.set 7 (.blk b1 89 [.pointer (some ⟨h.b, 0, none⟩), un, ub, ut, vi (Jn.nxN (Jn.rds S) S.s.length), vi (Jn.enN (Jn.rds S) S.s.length), .bool false])).set 4 (.row un 3 1 acc.1.length (acc.1.map vi))).set 6 (.row ut 9 1 acc.2.length (acc.2.map vs)))) (fun (gg : Value × Value × Jn.Acc × Nat) => match gg with | (un, ut, acc, m) => m ≤ S.s.length ∧ (Jn.AccOk m acc ∧ (acc.1.length : Int) ≤ Jn.enN (Jn.rds S) S.s.length) ∧ Jn.scan ((Jn.psN (Jn.rds S) S.s.length).drop m) acc = Jn.scan (Jn.psN (Jn.rds S) S.s.length) ([], [])) (fun (gg : Value × Value × Jn.Acc × Nat) => match gg with | (un, ut, acc, m) => S.s.length - m) (hF.sub ⟨rfl, rfl, rfl, trivial⟩) (by subst hhs0; exact hS) (by exact ⟨Nat.zero_le _, ⟨Jn.AccOk.start, (Jn.en_rng _ _).1⟩, rfl⟩) ?_
  clear hF hS; rintro ⟨un, ut, acc, m⟩ a w hfact hF hS
  subst hhs0; (try dsimp only at hfact); (try dsimp only at hF); (try dsimp only at hS)
  obtain ⟨hm0, ⟨hacc, hab⟩, hscn⟩ := hfact
  replace hS : St _ (_ :: _) (_ :: _ :: _ :: _ :: _ :: _ :: _ :: _ :: _) _ := hS
  obtain ⟨hal, hae, har, hat⟩ := hacc
  have hacc : Jn.AccOk m acc := ⟨hal, hae, har, hat⟩
  have hax : ∀ x ∈ acc.1, -9223372036854775808 ≤ x ∧ x ≤ 9223372036854775807 := fun x hx => by have := har x hx; omega
  refine wp_seq_k ?_; intro K24 hK24
  refine wp_seq_k ?_; intro K25 hK25
  refine reg hF hS (sq rfl (q_move rfl) <|
    sq rfl (q_move rfl) <|
    sq rfl (q_len_sl ty90 hpl rfl) <|
    sq rfl (q_lti rfl rfl) <|
    sq_end) ?_
  clear hF hS; intro a w hF hS
  refine hK25 _ _ ?_
  clear hK25
  refine wp_ifd hF rfl (fun hc6 => ?_) (fun hc6 => ?_)
  ·have hdne : (Jn.psN (Jn.rds S) S.s.length).drop m ≠ [] := by intro e; have := congrArg List.length e; simp at this; omega
   refine wp_skip ?_
   refine hK24 _ _ ?_
   clear hK24
   refine wp_block ?_
   refine wp_seq_k ?_; intro K26 hK26
   refine reg hF hS (sq rfl (q_move rfl) <|
     sq rfl (q_move rfl) <|
     sq rfl (q_slsl_lo ty90 ty94 hpl rfl rfl (by omega)) <|
     sq rfl (q_call fn50 rfl (fun w hS => record_ct _ _ (by intro e; have := congrArg List.length e; simp at this; omega) w (Sl.mono (hS.le (.inr (by simp))) (Sl.cut hpl (by omega)))) (fun _ _ _ h => h)) <|
     sq rfl (q_move rfl) <|
     sq rfl (q_extract rfl rfl) <|
     sq rfl (q_extract rfl rfl) <|
     sq rfl (q_extract rfl rfl) <|
     sq rfl (q_assign rfl) <|
     sq rfl (q_assign rfl) <|
     sq rfl (q_assign rfl) <|
     sq_end) ?_
   clear hF hS; intro a w hF hS
   rw [List.take_length, Int.toNat_natCast] at hF
   refine hK26 _ _ ?_
   clear hK26
   refine wp_seq_k ?_; intro K27 hK27
   refine wp_seq_k ?_; intro K28 hK28
   refine reg hF hS (sq rfl (q_move rfl) <|
     sq rfl (q_not rfl) <|
     sq_end) ?_
   clear hF hS; intro a w hF hS
   refine hK28 _ _ ?_
   clear hK28
   refine wp_if hF rfl (fun hc7 => ?_) (fun hc7 => ?_)
   ·refine wp_seq_k ?_; intro K29 hK29
    refine reg hF hS (sq rfl (q_move rfl) <|
      sq rfl (q_addi rfl rfl (by omega)) <|
      sq rfl (q_assign rfl) <|
      sq_end) ?_
    clear hF hS; intro a w hF hS
    refine hK29 _ _ ?_
    clear hK29
    refine wp_exit ?_
    refine ⟨(un, ut, acc, m + 1), ?_, ?_, hF.sub ⟨(by first | rfl | (show some (vi _) = some (vi _); rw [hrn]; congr 2 <;> omega)), rfl, rfl, trivial⟩, ?_⟩
    ·(try dsimp only); omega
    ·exact ⟨by omega, ⟨hacc.up (by omega), hab⟩, by rw [← hscn, Jn.scan_none (l := (Jn.psN (Jn.rds S) S.s.length).drop m) hdne (Jn.recT_none (by simpa using hc7)), List.drop_drop]⟩
    ·exact hS
   ·obtain ⟨nn, hrc, hrn⟩ := Jn.recT_some (l := (Jn.psN (Jn.rds S) S.s.length).drop m) (by simpa using hc7)
    have hrp := Jn.recd_pos hrc
    rw [List.length_drop] at hrp
    obtain ⟨hfo, hrt⟩ := Jn.recd_first hrc (fun x hx => Jn.psN_ok x (List.mem_of_mem_drop hx))
    rw [Jn.f0_drop, Jn.psN_at (by omega) (by omega)] at hfo
    have hnr : 1 ≤ ((Jn.psN (Jn.rds S) S.s.length).getD m Jn.p0).n ∧ ((Jn.psN (Jn.rds S) S.s.length).getD m Jn.p0).n ≤ 4096 := by rw [Jn.psN_at (by omega) (by omega)]; exact ⟨Jn.unp_num hfo, (Jn.unp_ok _).1.2⟩
    have heg := Jn.en_ge (Jn.blank_bad hfo) S.s.length (by omega)
    have hgd : ((Jn.psN (Jn.rds S) S.s.length).drop m).getD 0 Jn.p0 = (Jn.psN (Jn.rds S) S.s.length).getD m Jn.p0 := Jn.f0_drop _ _
    refine wp_skip ?_
    refine hK27 _ _ ?_
    clear hK27
    refine wp_seq_k ?_; intro K30 hK30
    refine wp_seq_k ?_; intro K31 hK31
    refine regd mixed kQ hF hS (sq rfl (q_move rfl) <|
      sq rfl (q_nilCheck rfl) <|
      sq rfl (q_fieldAddr ty89 rfl rfl (s' := 0) kQ) <|
      sq rfl (q_ld_blk1 ty51 7 rfl rfl rfl rfl) <|
      sq rfl (q_move rfl) <|
      sq rfl (q_move rfl) <|
      sq rfl (q_idx_sl ty90 ty94 hpl rfl rfl (by omega)) <|
      sq rfl (q_fld_E (j := 0) (s' := 0) ty94 hpl rfl (by first | omega | (simp; omega)) rfl kQ) <|
      sq rfl (q_ld_K1 (j := 0) Jn.p0 ty3 hpl (.inr (by simp)) rfl rfl (by first | omega | (simp; omega)) rfl) <|
      sq rfl (q_call fn51 rfl (fun w hS => cont_ct _ _ _ w (own_slV (hS.own _ (List.mem_of_getElem? (i := 4) rfl)).1 (by first | assumption | (simp; done)) (by first | rfl | (simp; done) | (simp; omega) | omega) (by first | omega | (simp; omega)))) (fun _ _ _ h => h)) <|
      sq rfl (q_not rfl) <|
      sq_end) ?_
    clear hF hS; intro a w hF hS
    refine hK31 _ _ ?_
    clear hK31
    refine wp_ifn hF rfl (fun hc8 => ?_) (fun hc8 => ?_)
    ·revert hS; revert hF; apply regJ (J := J4 (α0 := Value) (α1 := Value) (α2 := Value) (α3 := Value) 140 _ _ _ _ _) #[false, false, false, false, false, false, false, false, false, false, false, false, false, false, false, false, false, false, false, false, false, false, false, false, false, false] 26 mixed rfl rfl
     ·intro w hF hS
      refine goW_take 0 _ rfl kQ rfl hF (hS.keep sQ (sQ.n.n.n.n.n.n.n.n)) (q_move rfl) ?_
      clear hF; intro a hF
      refine goW_take 1 _ rfl kQ rfl hF (hS.keep sQ (sQ.n.n.n.n.n.n.n.n)) (q_move rfl) ?_
      clear hF; intro a hF
      refine goW_take 2 _ rfl kQ rfl hF (hS.keep sQ (sQ.n.n.n.n.n.n.n.n)) (q_move rfl) ?_
      clear hF; intro a hF
      refine goW_take 3 _ rfl kQ rfl hF (hS.keep sQ (sQ.n.n.n.n.n.n.n.n)) (q_nilCheck rfl) ?_
      clear hF; intro a hF
      refine goW_take 4 _ rfl kQ rfl hF (hS.keep sQ (sQ.n.n.n.n.n.n.n.n)) (q_fieldAddr ty89 rfl rfl (s' := 0) kQ) ?_
      clear hF; intro a hF
      refine goW_take 5 _ rfl kQ rfl hF (hS.keep sQ (sQ.n.n.n.n.n.n.n)) (q_ld_blk1 ty51 0 rfl rfl rfl rfl) ?_
      clear hF; intro a hF
      refine goW_take 6 _ rfl kQ rfl hF (hS.keep sQ (sQ.n.n.n.n.n.n.n.n)) (q_move rfl) ?_
      clear hF; intro a hF
      refine goW_take 7 _ rfl kQ rfl hF (hS.keep sQ (sQ.n.n.n.n.n.n.n.n)) (q_move rfl) ?_
      clear hF; intro a hF
      refine goW_take 8 _ rfl kQ rfl hF (hS.keep sQ (sQ.n.n.n.n.n.n.n.n)) (q_idx_sl ty90 ty94 hpl rfl rfl (by omega)) ?_
      clear hF; intro a hF
      refine goW_take 9 _ rfl kQ rfl hF (hS.keep sQ (sQ.n.n.n.n.n.n.n.n)) (q_fld_E (j := 0) (s' := 0) ty94 hpl rfl (by first | omega | (simp; omega)) rfl kQ) ?_
      clear hF; intro a hF
      refine goW_take 10 _ rfl kQ rfl hF (hS.keep sQ (sQ.n.n.n.n.n.n.n.n)) (q_ld_K1 (j := 0) Jn.p0 ty3 hpl (.inr (by simp)) rfl rfl (by first | omega | (simp; omega)) rfl) ?_
      clear hF; intro a hF
      refine goW_take 13 _ rfl kQ rfl hF (hS.keep sQ (sQ.n.n.n.n.n.n.n.n)) (q_move rfl) ?_
      clear hF; intro a hF
      refine goW_take 14 _ rfl kQ rfl hF (hS.keep sQ (sQ.n.n.n.n.n.n.n.n)) (q_nilCheck rfl) ?_
      clear hF; intro a hF
      refine goW_take 15 _ rfl kQ rfl hF (hS.keep sQ (sQ.n.n.n.n.n.n.n.n)) (q_fieldAddr ty89 rfl rfl (s' := 0) kQ) ?_
      clear hF; intro a hF
      refine goW_take 16 _ rfl kQ rfl hF (hS.keep sQ (sQ.n.n.n.n.n.n.n)) (q_ld_blk1 ty22 0 rfl rfl rfl rfl) ?_
      clear hF; intro a hF
      refine goW_take 17 _ rfl kQ rfl hF (hS.keep sQ (sQ.n.n.n.n.n.n.n.n)) (q_move rfl) ?_
      clear hF; intro a hF
      refine goW_fork [11, 18] kQ rfl ⟨?_, ?_, trivial⟩
      ·refine stepW_ef _ rfl rfl hF hS rfl (ef_bsliceA ty51 ty3 rfl rfl oQ (by decide) rfl rfl) ?_
       clear hF hS; rintro v_24_11 _ _ a w ⟨rfl, rfl⟩ hF hS
       replace hS : St _ (_ :: _) (_ :: _ :: _ :: _ :: _ :: _ :: _ :: _ :: _ :: _) _ := hS
       refine ⟨⟨.inr (hS.keep sQ (sQ.n.n.n.n.n.n.n.n.n)), .inr (hS.keep sQ (sQ.n.n.n.n.n.n.n.n)), .inr (hS.keep sQ (sQ.n.n.n.n.n.n.n.n.n)), .inr (hS.keep sQ (sQ.n.n.n.n.n.n.n.n.n)), .inr (hS.keep sQ (sQ.n.n.n.n.n.n.n.n.n)), iQ, iQ, .inr (hS.keep sQ (sQ.n.n.n.n.n.n.n.n.n)), .inr (hS.keep sQ (sQ.n.n.n.n.n.n.n.n.n)), .inr (hS.keep sQ (sQ.n.n.n.n.n.n.n.n.n)), .inr (hS.keep sQ (sQ.n.n.n.n.n.n.n.n)), .inr (hS.keep sQ (sQ.n.n.n.n.n.n.n.n.n)), .inr (hS.keep sQ (sQ.n.n.n.n.n.n.n.n.n)), .inr (hS.keep sQ (sQ.n.n.n.n.n.n.n.n.n)), .inr (hS.keep sQ (sQ.n.n.n.n.n.n.n.n.n)), .inr (hS.keep sQ (sQ.n.n.n.n.n.n.n.n.n)), trivial⟩, ?_⟩
       refine goW_fork [12, 18] kQ rfl ⟨?_, ?_, trivial⟩
       ·refine stepW_ef _ rfl rfl hF hS rfl (ef_append ty51 ty3 5 rfl rfl rfl (src_row ty51 (k := 0) rfl oQ) bQ rfl (by decide)) ?_
        clear hF hS; rintro v_24_12 _ _ a w ⟨rfl, rfl⟩ hF hS
        replace hS : St _ (_ :: _) (_ :: _ :: _ :: _ :: _ :: _ :: _ :: _ :: _ :: _) _ := hS
        refine ⟨⟨.inr (hS.keep sQ (sQ.n.n.n.n.n.n.n.n.n)), .inr (hS.keep sQ (sQ.n.n.n.n.n.n.n.n)), .inr (hS.keep sQ (sQ.n.n.n.n.n.n.n.n.n)), .inr (hS.keep sQ (sQ.n.n.n.n.n.n.n.n.n)), .inr (hS.keep sQ (sQ.n.n.n.n.n.n.n.n.n)), iQ, iQ, .inr (hS.keep sQ (sQ.n.n.n.n.n.n.n.n.n)), .inr (hS.keep sQ (sQ.n.n.n.n.n.n.n.n.n)), .inr (hS.keep sQ (sQ.n.n.n.n.n.n.n.n.n)), iQ, iQ, .inr (hS.keep sQ (sQ.n.n.n.n.n.n.n.n.n)), .inr (hS.keep sQ (sQ.n.n.n.n.n.n.n.n.n)), .inr (hS.keep sQ (sQ.n.n.n.n.n.n.n.n.n)), .inr (hS.keep sQ (sQ.n.n.n.n.n.n.n.n.n)), trivial⟩, ?_⟩
        refine gQ 18 rfl rfl hF hS rfl (ef_bsliceA ty22 ty9 rfl rfl oQ (by decide) rfl rfl) ?_
        clear hF hS; rintro v_24_18 _ _ a w ⟨rfl, rfl⟩ hF hS
        replace hS : St _ (_ :: _) (_ :: _ :: _ :: _ :: _ :: _ :: _ :: _ :: _ :: _ :: _) _ := hS
        refine ⟨⟨iQ, .inr (hS.keep sQ (sQ.n.n.n.n.n.n.n.n.n)), .inr (hS.keep sQ (sQ.n.n.n.n.n.n.n.n.n.n)), .inr (hS.keep sQ (sQ.n.n.n.n.n.n.n.n.n.n)), .inr (hS.keep sQ (sQ.n.n.n.n.n.n.n.n.n.n)), iQ, iQ, .inr (hS.keep sQ (sQ.n.n.n.n.n.n.n.n.n.n)), .inr (hS.keep sQ (sQ.n.n.n.n.n.n.n.n.n.n)), .inr (hS.keep sQ (sQ.n.n.n.n.n.n.n.n.n.n)), iQ, iQ, .inr (hS.keep sQ (sQ.n.n.n.n.n.n.n.n.n.n)), .inr (hS.keep sQ (sQ.n.n.n.n.n.n.n.n.n.n)), .inr (hS.keep sQ (sQ.n.n.n.n.n.n.n.n.n.n)), .inr (hS.keep sQ (sQ.n.n.n.n.n.n.n.n.n.n)), trivial⟩, ?_⟩
        refine gQ 19 rfl rfl hF hS rfl (ef_append ty22 ty9 8 rfl rfl rfl (src_row ty22 (k := 0) rfl oQ) bQ rfl (by decide)) ?_
        clear hF hS; rintro v_24_19 _ _ a w ⟨rfl, rfl⟩ hF hS
        replace hS : St _ (_ :: _) (_ :: _ :: _ :: _ :: _ :: _ :: _ :: _ :: _ :: _ :: _) _ := hS
        refine ⟨⟨iQ, iQ, iQ, .inr (hS.keep sQ (sQ.n.n.n.n.n.n.n.n.n.n)), .inr (hS.keep sQ (sQ.n.n.n.n.n.n.n.n.n.n)), iQ, iQ, .inr (hS.keep sQ (sQ.n.n.n.n.n.n.n.n.n.n)), .inr (hS.keep sQ (sQ.n.n.n.n.n.n.n.n.n.n)), .inr (hS.keep sQ (sQ.n.n.n.n.n.n.n.n.n.n)), iQ, iQ, .inr (hS.keep sQ (sQ.n.n.n.n.n.n.n.n.n.n)), .inr (hS.keep sQ (sQ.n.n.n.n.n.n.n.n.n.n)), .inr (hS.keep sQ (sQ.n.n.n.n.n.n.n.n.n.n)), .inr (hS.keep sQ (sQ.n.n.n.n.n.n.n.n.n.n)), trivial⟩, ?_⟩
        refine goW_take 20 _ rfl kQ rfl hF (hS.keep sQ (sQ.n.n.n.n.n.n.n.n.n.n)) (q_nilCheck rfl) ?_
        clear hF; intro a hF
        refine goW_take 21 _ rfl kQ rfl hF (hS.keep sQ (sQ.n.n.n.n.n.n.n.n.n.n)) (q_fieldAddr ty89 rfl rfl (s' := 0) kQ) ?_
        clear hF; intro a hF
        refine gQ 22 rfl rfl hF hS rfl (ef_store1 ty51 9 rfl rfl rfl (row_one (hS.own _ (List.mem_of_getElem? (i := 6) rfl)).1) (by simp)) ?_
        clear hF hS; rintro _ _ _ a w ⟨rfl, rfl, rfl⟩ hF hS
        replace hS : St _ (_ :: _) (_ :: _ :: _ :: _ :: _ :: _ :: _ :: _ :: _ :: .blk _ _ ([_, _, _, _, _, _, _].set 1 _) :: _) _ := hS
        simp only [List.set_cons_zero, List.set_cons_succ] at hS
        replace hS : St _ (_ :: _) (_ :: _ :: _ :: _ :: _ :: _ :: _ :: _ :: _ :: _ :: _) _ := hS
        refine ⟨⟨iQ, iQ, iQ, iQ, iQ, .inr (hS.keep sQ (sQ.n.n.n.n.n.n.n.n.n.n)), .inr (hS.keep sQ (sQ.n.n.n.n.n.n.n.n.n.n)), iQ, iQ, iQ, iQ, iQ, iQ, iQ, iQ, iQ, .inr (hS.keep sQ (sQ.n.n.n.n.n.n.n.n.n.n)), iQ, trivial⟩, ?_⟩
        refine goW_take 23 _ rfl kQ rfl hF (hS.keep sQ (sQ.n.n.n.n.n.n.n.n.n.n)) (q_nilCheck rfl) ?_
        clear hF; intro a hF
        refine goW_take 24 _ rfl kQ rfl hF (hS.keep sQ (sQ.n.n.n.n.n.n.n.n.n.n)) (q_fieldAddr ty89 rfl rfl (s' := 0) kQ) ?_
        clear hF; intro a hF
        refine gQ 25 rfl rfl hF hS rfl (ef_store1 ty22 9 rfl rfl rfl (row_one (hS.own _ (List.mem_of_getElem? (i := 8) rfl)).1) (by simp)) ?_
        clear hF hS; rintro _ _ _ a w ⟨rfl, rfl, rfl⟩ hF hS
        replace hS : St _ (_ :: _) (_ :: _ :: _ :: _ :: _ :: _ :: _ :: _ :: _ :: .blk _ _ ([_, _, _, _, _, _, _].set 3 _) :: _) _ := hS
        simp only [List.set_cons_zero, List.set_cons_succ] at hS
        replace hS : St _ (_ :: _) (_ :: _ :: _ :: _ :: _ :: _ :: _ :: _ :: _ :: _ :: _) _ := hS
        refine ⟨⟨iQ, iQ, iQ, iQ, iQ, iQ, iQ, iQ, iQ, iQ, iQ, iQ, iQ, iQ, iQ, iQ, iQ, iQ, iQ, iQ, trivial⟩, ?_⟩
        exact goW_done kQ (j4_mk v_24_11 v_24_12 v_24_18 v_24_19 (trivial) (hF.sub (L' := [(4, _), (5, _), (11, _), (13, _)]) ⟨rfl, rfl, rfl, rfl, trivial⟩) hS)
       ·refine stepW_ef _ rfl rfl hF hS rfl (ef_bsliceA ty22 ty9 rfl rfl oQ (by decide) rfl rfl) ?_
        clear hF hS; rintro v_24_18 _ _ a w ⟨rfl, rfl⟩ hF hS
        replace hS : St _ (_ :: _) (_ :: _ :: _ :: _ :: _ :: _ :: _ :: _ :: _ :: _ :: _) _ := hS
        refine ⟨⟨iQ, .inr (hS.keep sQ (sQ.n.n.n.n.n.n.n.n.n)), .inr (hS.keep sQ (sQ.n.n.n.n.n.n.n.n.n.n)), .inr (hS.keep sQ (sQ.n.n.n.n.n.n.n.n.n.n)), .inr (hS.keep sQ (sQ.n.n.n.n.n.n.n.n.n.n)), iQ, iQ, .inr (hS.keep sQ (sQ.n.n.n.n.n.n.n.n.n.n)), .inr (hS.keep sQ (sQ.n.n.n.n.n.n.n.n.n.n)), .inr (hS.keep sQ (sQ.n.n.n.n.n.n.n.n.n.n)), .inr (hS.keep sQ (sQ.n.n.n.n.n.n.n.n.n)), .inr (hS.keep sQ (sQ.n.n.n.n.n.n.n.n.n.n)), .inr (hS.keep sQ (sQ.n.n.n.n.n.n.n.n.n.n)), .inr (hS.keep sQ (sQ.n.n.n.n.n.n.n.n.n.n)), .inr (hS.keep sQ (sQ.n.n.n.n.n.n.n.n.n.n)), .inr (hS.keep sQ (sQ.n.n.n.n.n.n.n.n.n.n)), trivial⟩, ?_⟩
        refine gQ 12 rfl rfl hF hS rfl (ef_append ty51 ty3 6 rfl rfl rfl (src_row ty51 (k := 1) rfl oQ) bQ rfl (by decide)) ?_
        clear hF hS; rintro v_24_12 _ _ a w ⟨rfl, rfl⟩ hF hS
        replace hS : St _ (_ :: _) (_ :: _ :: _ :: _ :: _ :: _ :: _ :: _ :: _ :: _ :: _) _ := hS
        refine ⟨⟨iQ, .inr (hS.keep sQ (sQ.n.n.n.n.n.n.n.n.n)), .inr (hS.keep sQ (sQ.n.n.n.n.n.n.n.n.n.n)), .inr (hS.keep sQ (sQ.n.n.n.n.n.n.n.n.n.n)), .inr (hS.keep sQ (sQ.n.n.n.n.n.n.n.n.n.n)), iQ, iQ, .inr (hS.keep sQ (sQ.n.n.n.n.n.n.n.n.n.n)), .inr (hS.keep sQ (sQ.n.n.n.n.n.n.n.n.n.n)), .inr (hS.keep sQ (sQ.n.n.n.n.n.n.n.n.n.n)), iQ, iQ, .inr (hS.keep sQ (sQ.n.n.n.n.n.n.n.n.n.n)), .inr (hS.keep sQ (sQ.n.n.n.n.n.n.n.n.n.n)), .inr (hS.keep sQ (sQ.n.n.n.n.n.n.n.n.n.n)), .inr (hS.keep sQ (sQ.n.n.n.n.n.n.n.n.n.n)), trivial⟩, ?_⟩
        refine gQ 19 rfl rfl hF hS rfl (ef_append ty22 ty9 8 rfl rfl rfl (src_row ty22 (k := 0) rfl oQ) bQ rfl (by decide)) ?_
        clear hF hS; rintro v_24_19 _ _ a w ⟨rfl, rfl⟩ hF hS
        replace hS : St _ (_ :: _) (_ :: _ :: _ :: _ :: _ :: _ :: _ :: _ :: _ :: _ :: _) _ := hS
        refine ⟨⟨iQ, iQ, iQ, .inr (hS.keep sQ (sQ.n.n.n.n.n.n.n.n.n.n)), .inr (hS.keep sQ (sQ.n.n.n.n.n.n.n.n.n.n)), iQ, iQ, .inr (hS.keep sQ (sQ.n.n.n.n.n.n.n.n.n.n)), .inr (hS.keep sQ (sQ.n.n.n.n.n.n.n.n.n.n)), .inr (hS.keep sQ (sQ.n.n.n.n.n.n.n.n.n.n)), iQ, iQ, .inr (hS.keep sQ (sQ.n.n.n.n.n.n.n.n.n.n)), .inr (hS.keep sQ (sQ.n.n.n.n.n.n.n.n.n.n)), .inr (hS.keep sQ (sQ.n.n.n.n.n.n.n.n.n.n)), .inr (hS.keep sQ (sQ.n.n.n.n.n.n.n.n.n.n)), trivial⟩, ?_⟩
        refine goW_take 20 _ rfl kQ rfl hF (hS.keep sQ (sQ.n.n.n.n.n.n.n.n.n.n)) (q_nilCheck rfl) ?_
        clear hF; intro a hF
        refine goW_take 21 _ rfl kQ rfl hF (hS.keep sQ (sQ.n.n.n.n.n.n.n.n.n.n)) (q_fieldAddr ty89 rfl rfl (s' := 0) kQ) ?_
        clear hF; intro a hF
        refine gQ 22 rfl rfl hF hS rfl (ef_store1 ty51 9 rfl rfl rfl (row_one (hS.own _ (List.mem_of_getElem? (i := 6) rfl)).1) (by simp)) ?_
        clear hF hS; rintro _ _ _ a w ⟨rfl, rfl, rfl⟩ hF hS
        replace hS : St _ (_ :: _) (_ :: _ :: _ :: _ :: _ :: _ :: _ :: _ :: _ :: .blk _ _ ([_, _, _, _, _, _, _].set 1 _) :: _) _ := hS
        simp only [List.set_cons_zero, List.set_cons_succ] at hS
        replace hS : St _ (_ :: _) (_ :: _ :: _ :: _ :: _ :: _ :: _ :: _ :: _ :: _ :: _) _ := hS
        refine ⟨⟨iQ, iQ, iQ, iQ, iQ, .inr (hS.keep sQ (sQ.n.n.n.n.n.n.n.n.n.n)), .inr (hS.keep sQ (sQ.n.n.n.n.n.n.n.n.n.n)), iQ, iQ, iQ, iQ, iQ, iQ, iQ, iQ, iQ, .inr (hS.keep sQ (sQ.n.n.n.n.n.n.n.n.n.n)), iQ, trivial⟩, ?_⟩
        refine goW_take 23 _ rfl kQ rfl hF (hS.keep sQ (sQ.n.n.n.n.n.n.n.n.n.n)) (q_nilCheck rfl) ?_
        clear hF; intro a hF
        refine goW_take 24 _ rfl kQ rfl hF (hS.keep sQ (sQ.n.n.n.n.n.n.n.n.n.n)) (q_fieldAddr ty89 rfl rfl (s' := 0) kQ) ?_
        clear hF; intro a hF
        refine gQ 25 rfl rfl hF hS rfl (ef_store1 ty22 9 rfl rfl rfl (row_one (hS.own _ (List.mem_of_getElem? (i := 8) rfl)).1) (by simp)) ?_
        clear hF hS; rintro _ _ _ a w ⟨rfl, rfl, rfl⟩ hF hS
        replace hS : St _ (_ :: _) (_ :: _ :: _ :: _ :: _ :: _ :: _ :: _ :: _ :: .blk _ _ ([_, _, _, _, _, _, _].set 3 _) :: _) _ := hS
        simp only [List.set_cons_zero, List.set_cons_succ] at hS
        replace hS : St _ (_ :: _) (_ :: _ :: _ :: _ :: _ :: _ :: _ :: _ :: _ :: _ :: _) _ := hS
        refine ⟨⟨iQ, iQ, iQ, iQ, iQ, iQ, iQ, iQ, iQ, iQ, iQ, iQ, iQ, iQ, iQ, iQ, iQ, iQ, iQ, iQ, trivial⟩, ?_⟩
        exact goW_done kQ (j4_mk v_24_11 v_24_12 v_24_18 v_24_19 (trivial) (hF.sub (L' := [(4, _), (5, _), (11, _), (13, _)]) ⟨rfl, rfl, rfl, rfl, trivial⟩) hS)
      ·refine stepW_ef _ rfl rfl hF hS rfl (ef_bsliceA ty22 ty9 rfl rfl oQ (by decide) rfl rfl) ?_
       clear hF hS; rintro v_24_18 _ _ a w ⟨rfl, rfl⟩ hF hS
       replace hS : St _ (_ :: _) (_ :: _ :: _ :: _ :: _ :: _ :: _ :: _ :: _ :: _) _ := hS
       refine ⟨⟨iQ, .inr (hS.keep sQ (sQ.n.n.n.n.n.n.n.n)), .inr (hS.keep sQ (sQ.n.n.n.n.n.n.n.n.n)), .inr (hS.keep sQ (sQ.n.n.n.n.n.n.n.n.n)), .inr (hS.keep sQ (sQ.n.n.n.n.n.n.n.n.n)), .inr (hS.keep sQ (sQ.n.n.n.n.n.n.n.n.n)), .inr (hS.keep sQ (sQ.n.n.n.n.n.n.n.n.n)), .inr (hS.keep sQ (sQ.n.n.n.n.n.n.n.n.n)), .inr (hS.keep sQ (sQ.n.n.n.n.n.n.n.n.n)), .inr (hS.keep sQ (sQ.n.n.n.n.n.n.n.n.n)), .inr (hS.keep sQ (sQ.n.n.n.n.n.n.n.n)), .inr (hS.keep sQ (sQ.n.n.n.n.n.n.n.n.n)), .inr (hS.keep sQ (sQ.n.n.n.n.n.n.n.n.n)), .inr (hS.keep sQ (sQ.n.n.n.n.n.n.n.n.n)), .inr (hS.keep sQ (sQ.n.n.n.n.n.n.n.n.n)), .inr (hS.keep sQ (sQ.n.n.n.n.n.n.n.n.n)), trivial⟩, ?_⟩
       refine gQ 11 rfl rfl hF hS rfl (ef_bsliceA ty51 ty3 rfl rfl oQ (by decide) rfl rfl) ?_
       clear hF hS; rintro v_24_11 _ _ a w ⟨rfl, rfl⟩ hF hS
       replace hS : St _ (_ :: _) (_ :: _ :: _ :: _ :: _ :: _ :: _ :: _ :: _ :: _ :: _) _ := hS
       refine ⟨⟨iQ, .inr (hS.keep sQ (sQ.n.n.n.n.n.n.n.n.n)), .inr (hS.keep sQ (sQ.n.n.n.n.n.n.n.n.n.n)), .inr (hS.keep sQ (sQ.n.n.n.n.n.n.n.n.n.n)), .inr (hS.keep sQ (sQ.n.n.n.n.n.n.n.n.n.n)), iQ, iQ, .inr (hS.keep sQ (sQ.n.n.n.n.n.n.n.n.n.n)), .inr (hS.keep sQ (sQ.n.n.n.n.n.n.n.n.n.n)), .inr (hS.keep sQ (sQ.n.n.n.n.n.n.n.n.n.n)), .inr (hS.keep sQ (sQ.n.n.n.n.n.n.n.n.n)), .inr (hS.keep sQ (sQ.n.n.n.n.n.n.n.n.n.n)), .inr (hS.keep sQ (sQ.n.n.n.n.n.n.n.n.n.n)), .inr (hS.keep sQ (sQ.n.n.n.n.n.n.n.n.n.n)), .inr (hS.keep sQ (sQ.n.n.n.n.n.n.n.n.n.n)), .inr (hS.keep sQ (sQ.n.n.n.n.n.n.n.n.n.n)), trivial⟩, ?_⟩
       refine gQ 12 rfl rfl hF hS rfl (ef_append ty51 ty3 6 rfl rfl rfl (src_row ty51 (k := 0) rfl oQ) bQ rfl (by decide)) ?_
       clear hF hS; rintro v_24_12 _ _ a w ⟨rfl, rfl⟩ hF hS
       replace hS : St _ (_ :: _) (_ :: _ :: _ :: _ :: _ :: _ :: _ :: _ :: _ :: _ :: _) _ := hS
       refine ⟨⟨iQ, .inr (hS.keep sQ (sQ.n.n.n.n.n.n.n.n.n)), .inr (hS.keep sQ (sQ.n.n.n.n.n.n.n.n.n.n)), .inr (hS.keep sQ (sQ.n.n.n.n.n.n.n.n.n.n)), .inr (hS.keep sQ (sQ.n.n.n.n.n.n.n.n.n.n)), iQ, iQ, .inr (hS.keep sQ (sQ.n.n.n.n.n.n.n.n.n.n)), .inr (hS.keep sQ (sQ.n.n.n.n.n.n.n.n.n.n)), .inr (hS.keep sQ (sQ.n.n.n.n.n.n.n.n.n.n)), iQ, iQ, .inr (hS.keep sQ (sQ.n.n.n.n.n.n.n.n.n.n)), .inr (hS.keep sQ (sQ.n.n.n.n.n.n.n.n.n.n)), .inr (hS.keep sQ (sQ.n.n.n.n.n.n.n.n.n.n)), .inr (hS.keep sQ (sQ.n.n.n.n.n.n.n.n.n.n)), trivial⟩, ?_⟩
       refine gQ 19 rfl rfl hF hS rfl (ef_append ty22 ty9 8 rfl rfl rfl (src_row ty22 (k := 1) rfl oQ) bQ rfl (by decide)) ?_
       clear hF hS; rintro v_24_19 _ _ a w ⟨rfl, rfl⟩ hF hS
       replace hS : St _ (_ :: _) (_ :: _ :: _ :: _ :: _ :: _ :: _ :: _ :: _ :: _ :: _) _ := hS
       refine ⟨⟨iQ, iQ, iQ, .inr (hS.keep sQ (sQ.n.n.n.n.n.n.n.n.n.n)), .inr (hS.keep sQ (sQ.n.n.n.n.n.n.n.n.n.n)), iQ, iQ, .inr (hS.keep sQ (sQ.n.n.n.n.n.n.n.n.n.n)), .inr (hS.keep sQ (sQ.n.n.n.n.n.n.n.n.n.n)), .inr (hS.keep sQ (sQ.n.n.n.n.n.n.n.n.n.n)), iQ, iQ, .inr (hS.keep sQ (sQ.n.n.n.n.n.n.n.n.n.n)), .inr (hS.keep sQ (sQ.n.n.n.n.n.n.n.n.n.n)), .inr (hS.keep sQ (sQ.n.n.n.n.n.n.n.n.n.n)), .inr (hS.keep sQ (sQ.n.n.n.n.n.n.n.n.n.n)), trivial⟩, ?_⟩
       refine goW_take 20 _ rfl kQ rfl hF (hS.keep sQ (sQ.n.n.n.n.n.n.n.n.n.n)) (q_nilCheck rfl) ?_
       clear hF; intro a hF
       refine goW_take 21 _ rfl kQ rfl hF (hS.keep sQ (sQ.n.n.n.n.n.n.n.n.n.n)) (q_fieldAddr ty89 rfl rfl (s' := 0) kQ) ?_
       clear hF; intro a hF
       refine gQ 22 rfl rfl hF hS rfl (ef_store1 ty51 9 rfl rfl rfl (row_one (hS.own _ (List.mem_of_getElem? (i := 6) rfl)).1) (by simp)) ?_
       clear hF hS; rintro _ _ _ a w ⟨rfl, rfl, rfl⟩ hF hS
       replace hS : St _ (_ :: _) (_ :: _ :: _ :: _ :: _ :: _ :: _ :: _ :: _ :: .blk _ _ ([_, _, _, _, _, _, _].set 1 _) :: _) _ := hS
       simp only [List.set_cons_zero, List.set_cons_succ] at hS
       replace hS : St _ (_ :: _) (_ :: _ :: _ :: _ :: _ :: _ :: _ :: _ :: _ :: _ :: _) _ := hS
       refine ⟨⟨iQ, iQ, iQ, iQ, iQ, .inr (hS.keep sQ (sQ.n.n.n.n.n.n.n.n.n.n)), .inr (hS.keep sQ (sQ.n.n.n.n.n.n.n.n.n.n)), iQ, iQ, iQ, iQ, iQ, iQ, iQ, iQ, iQ, .inr (hS.keep sQ (sQ.n.n.n.n.n.n.n.n.n.n)), iQ, trivial⟩, ?_⟩
       refine goW_take 23 _ rfl kQ rfl hF (hS.keep sQ (sQ.n.n.n.n.n.n.n.n.n.n)) (q_nilCheck rfl) ?_
       clear hF; intro a hF
       refine goW_take 24 _ rfl kQ rfl hF (hS.keep sQ (sQ.n.n.n.n.n.n.n.n.n.n)) (q_fieldAddr ty89 rfl rfl (s' := 0) kQ) ?_
       clear hF; intro a hF
       refine gQ 25 rfl rfl hF hS rfl (ef_store1 ty22 9 rfl rfl rfl (row_one (hS.own _ (List.mem_of_getElem? (i := 8) rfl)).1) (by simp)) ?_
       clear hF hS; rintro _ _ _ a w ⟨rfl, rfl, rfl⟩ hF hS
       replace hS : St _ (_ :: _) (_ :: _ :: _ :: _ :: _ :: _ :: _ :: _ :: _ :: .blk _ _ ([_, _, _, _, _, _, _].set 3 _) :: _) _ := hS
       simp only [List.set_cons_zero, List.set_cons_succ] at hS
       replace hS : St _ (_ :: _) (_ :: _ :: _ :: _ :: _ :: _ :: _ :: _ :: _ :: _ :: _) _ := hS
       refine ⟨⟨iQ, iQ, iQ, iQ, iQ, iQ, iQ, iQ, iQ, iQ, iQ, iQ, iQ, iQ, iQ, iQ, iQ, iQ, iQ, iQ, trivial⟩, ?_⟩
       exact goW_done kQ (j4_mk v_24_11 v_24_12 v_24_18 v_24_19 (trivial) (hF.sub (L' := [(4, _), (5, _), (11, _), (13, _)]) ⟨rfl, rfl, rfl, rfl, trivial⟩) (hS.perm (.swap _ _ _)))
     rintro a w ⟨v_24_11, v_24_12, v_24_18, v_24_19, -, hF, hS⟩
     (try dsimp only at hF); (try dsimp only at hS)
     refine hK30 _ _ ?_
     clear hK30
     refine reg hF hS (sq rfl (q_move rfl) <|
       sq rfl (q_move rfl) <|
       sq rfl (q_addi rfl rfl (by omega)) <|
       sq rfl (q_assign rfl) <|
       sq_end) ?_
     clear hF hS; intro a w hF hS
     replace hS := hS.keep sQ (sQ.n.n)
     refine ⟨(v_24_12, v_24_19, (acc.1 ++ [((Jn.psN (Jn.rds S) S.s.length).getD m Jn.p0).n], acc.2 ++ [(Jn.recT ((Jn.psN (Jn.rds S) S.s.length).drop m)).1]), m + nn), ?_, ?_, hF.sub ⟨(by first | rfl | (show some (vi _) = some (vi _); rw [hrn]; congr 2 <;> omega)), rfl, rfl, trivial⟩, ?_⟩
     ·(try dsimp only); omega
     ·exact ⟨by omega, ⟨hacc.add (by omega) hnr hrt, by simp; omega⟩, by rw [← hscn, Jn.scan_some hrc, List.drop_drop]; unfold Jn.addR; rw [hgd, if_neg (by simpa using hc8)]⟩
     ·(try dsimp only [List.set_cons_zero, List.set_cons_succ])
      rw [List.length_append, List.length_append, List.map_append, List.map_append]
      exact hS
    ·refine wp_skip ?_
     refine hK30 _ _ ?_
     clear hK30
     refine reg hF hS (sq rfl (q_move rfl) <|
       sq rfl (q_move rfl) <|
       sq rfl (q_addi rfl rfl (by omega)) <|
       sq rfl (q_assign rfl) <|
       sq_end) ?_
     clear hF hS; intro a w hF hS
     refine ⟨(un, ut, acc, m + nn), ?_, ?_, hF.sub ⟨(by first | rfl | (show some (vi _) = some (vi _); rw [hrn]; congr 2 <;> omega)), rfl, rfl, trivial⟩, ?_⟩
     ·(try dsimp only); omega
     ·exact ⟨by omega, ⟨hacc.up (by omega), hab⟩, by rw [← hscn, Jn.scan_some hrc, List.drop_drop]; unfold Jn.addR; rw [hgd, if_pos (by simpa using hc8)]⟩
     ·exact hS
  ·refine wp_exit ?_
   refine hK22 _ _ ?_
   clear hK22
   refine wp_seq_k ?_; intro K32 hK32
   refine reg hF hS (sq rfl (q_move rfl) <|
     sq rfl (q_assign rfl) <|
     sq rfl (q_assign rfl) <|
     sq_end) ?_
   clear hF hS; intro a w hF hS
   refine hK32 _ _ ?_
   clear hK32
   refine wp_ret ?_
   replace hS := hS.perm (.cons _ (.cons _ (.cons _ (.cons _ (.cons _ (.cons _ (.swap _ _ _)))))))
   replace hS := hS.perm (.cons _ (.cons _ (.cons _ (.cons _ (.cons _ (.swap _ _ _))))))
   replace hS := hS.perm (.cons _ (.cons _ (.cons _ (.cons _ (.swap _ _ _)))))
   replace hS := hS.perm (.cons _ (.cons _ (.cons _ (.swap _ _ _))))
   replace hS := hS.perm (.cons _ (.cons _ (.swap _ _ _)))
   replace hS := hS.perm (.cons _ (.swap _ _ _))
   replace hS := hS.perm (.swap _ _ _)
   replace hS := hS.perm (.cons _ (.cons _ (.cons _ (.cons _ (.swap _ _ _)))))
   replace hS := hS.perm (.cons _ (.cons _ (.cons _ (.swap _ _ _))))
   replace hS := hS.perm (.cons _ (.cons _ (.swap _ _ _)))
   replace hS := hS.perm (.cons _ (.swap _ _ _))
   replace hS := hS.perm (.cons _ (.cons _ (.cons _ (.cons _ (.cons _ (.swap _ _ _))))))
   replace hS := hS.perm (.cons _ (.cons _ (.cons _ (.cons _ (.swap _ _ _)))))
   replace hS := hS.perm (.cons _ (.cons _ (.cons _ (.swap _ _ _))))
   replace hS := hS.perm (.cons _ (.cons _ (.swap _ _ _)))
   replace hS := hS.perm (.cons _ (.cons _ (.cons _ (.cons _ (.cons _ (.cons _ (.swap _ _ _)))))))
   replace hS := hS.perm (.cons _ (.cons _ (.cons _ (.cons _ (.cons _ (.swap _ _ _))))))
   replace hS := hS.perm (.cons _ (.cons _ (.cons _ (.cons _ (.swap _ _ _)))))
   replace hS := hS.perm (.cons _ (.cons _ (.cons _ (.swap _ _ _))))
   obtain rfl : m = S.s.length := by omega
   exact fn_retx (rs := [.tmp 2, .tmp 3]) rfl hF hS (vs := [_, _]) ⟨rfl, rfl, trivial⟩ [] [_, _, _, _, _, _, _, _] (sQ.n) sQ ⟨rfl, b1, _, _, _, _, _, _, _, _, rfl, rfl, (by rw [Jn.opn_of hscn]; exact ⟨_, _, _, Jn.wf_opn hO hacc hab, rfl, rfl, rfl, rfl⟩), hDq⟩
end Go.Proofs.YtibbhobfdbfkkaaGreatDoor
