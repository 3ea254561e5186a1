/- A text of a proof over this seat: walks over the program's functions and the plain laws that they need. -/
import Derived.Test.YtibbhobfdbfkkaaDoorIj16
import Derived.Test.YtibbhobfdbfkkaaDoorJnB
import Derived.Test.YtibbhobfdbfkkaaDoorFwG
import Derived.Test.YtibbhobfdbfkkaaDoorFwB
set_option linter.all false
namespace Go.Proofs.YtibbhobfdbfkkaaDoor
open Go.Fw
theorem ty35 : Tf Tryd.prog 35 (.slice 46) 1 24 (Value.slice none 0 0) := ⟨Tryd.underlying35, by kernel_rfl⟩
theorem fn14 : FnOk Tryd.prog 14 := ⟨_, Tryd.func14, rfl, by kernel_rfl⟩
theorem fn17 : FnOk Tryd.prog 17 := ⟨_, Tryd.func17, rfl, by kernel_rfl⟩

attribute [local irreducible] Sha.sum Jn.good Jn.hd Jn.lb Jn.cnt Jn.unp Jn.pack Jn.opn Jn.app

set_option maxRecDepth 4000 in
set_option maxHeartbeats 2000000 in
theorem jlaw4_ct (n : Nat) (hn : 1 ≤ n ∧ n ≤ 4096) (v : Value) (os : List Stp) (v2 : Value) (wn : List UInt8) (w : World) (hb1 : Sl encSt (ph w) v os) (hb2 : Sl encB (ph w) v2 wn) {fz1 : Nat × Nat} {bt1 : TypeId} (hg1 : w.heap[2]? = some (.cells (Sha.kc.map vw).toArray bt1 fz1)) : Ct Tryd.prog 4 [vi (n : Int), v, v2] w (fun r _ _ => r = .bool true) := by
 refine fn_enter Tryd.func4 rfl Tryd.ntmps4 (Nat.le_of_ble_eq_true rfl) fun a hF hS => ?_
 have hol := hb1.1
 have hwl := hb2.1
 refine wp_seq_k ?_; intro K1 hK1
 refine reg hF hS (sq rfl (q_assign rfl) <|
   sq_end) ?_
 clear hF hS; intro a w hF hS
 refine hK1 _ _ ?_
 clear hK1
 refine wp_seq_k ?_; intro K2 hK2
 refine wp_seq_k ?_; intro K3 hK3
 refine regl ?_
 refine wpl_sq hF hS (sq rfl (q_move rfl) <|
   sq rfl (q_gti rfl rfl) <|
   sq rfl (q_move rfl) <|
   sq_end) ?_
 clear hF hS; intro a w hF hS
 refine wpl_or 2 24 3 hF hS rfl rfl rfl rfl rfl (fun hg => have hg := (by first | exact of_decide_eq_false hg | exact hg); sq_go 24 rfl rfl rfl (q_move rfl) <|
   sq_go 24 rfl rfl rfl (q_len_sl ty35 hb1 rfl) <|
   sq_go 24 rfl rfl rfl (q_gti rfl rfl) <|
   sq_end) rfl rfl ?_
 clear hF hS; intro a w hF hS
 refine wpl_sq hF hS (sq rfl (q_move rfl) <|
   sq_end) ?_
 clear hF hS; intro a w hF hS
 refine wpl_or 7 29 3 hF hS rfl rfl rfl rfl rfl (fun hg => have hg := hg; sq_go 29 rfl rfl rfl (q_move rfl) <|
   sq_go 29 rfl rfl rfl (q_len_sl ty36 hb2 rfl) <|
   sq_go 29 rfl rfl rfl (q_gti rfl rfl) <|
   sq_end) rfl rfl ?_
 clear hF hS; intro a w hF hS
 refine wpList_nil ?_
 refine hK3 _ _ ?_
 clear hK3
 refine wp_if hF rfl (fun hc1 => ?_) (fun hc1 => ?_)
 ·(try simp only [Bool.or_eq_true, Bool.and_eq_true, Bool.or_eq_false_iff, Bool.and_eq_false_iff, decide_eq_true_eq, decide_eq_false_iff_not, Bool.not_eq_true', Bool.not_eq_false'] at hc1)
  refine wp_seq_k ?_; intro K4 hK4
  refine reg hF hS (sq rfl (q_call fn5 rfl (fun w hS => sanity40_ct w (hS.ext _ _ hg1)) (fun _ _ _ h => h)) <|
    sq rfl (q_assign rfl) <|
    sq_end) ?_
  clear hF hS; intro a w hF hS
  refine hK4 _ _ ?_
  clear hK4
  refine wp_ret ?_
  exact fn_ret (rs := [.tmp 6]) rfl hF hS (vs := [_]) ⟨rfl, trivial⟩ zQ zQ (rfl)
 ·(try simp only [Bool.or_eq_true, Bool.and_eq_true, Bool.or_eq_false_iff, Bool.and_eq_false_iff, decide_eq_true_eq, decide_eq_false_iff_not, Bool.not_eq_true', Bool.not_eq_false'] at hc1)
  refine wp_skip ?_
  refine hK2 _ _ ?_
  clear hK2
  refine wp_seq_k ?_; intro K5 hK5
  refine regl ?_
  refine wpl_sq hF hS (sq rfl (q_move rfl) <|
    sq_end) ?_
  clear hF hS; intro a w hF hS
  refine wpl_ef hF hS rfl (ef_call fn13 rfl (fun w hS => dnew_ct n (by omega) w )) ?_
  clear hF hS; rintro _ _ _ a w ⟨_, _, rfl, rfl, ⟨rfl, hh2, qa3, qb4, qc5, qd6, rfl, rfl, hD7⟩⟩ hF hS
  replace hS : St _ [] [_, _, _, _] _ := hS
  refine wpl_sq hF hS (sq rfl (q_move rfl) <|
    sq rfl (q_extract rfl rfl) <|
    sq rfl (q_extract rfl rfl) <|
    sq rfl (q_assign rfl) <|
    sq rfl (q_assign rfl) <|
    sq_end) ?_
  clear hF hS; intro a w hF hS
  refine wpList_nil ?_
  refine hK5 _ _ ?_
  clear hK5
  refine wp_seq_k ?_; intro K6 hK6
  refine wp_seq_k ?_; intro K7 hK7
  refine reg hF hS (sq rfl (q_move rfl) <|
    sq rfl (q_nf (q_nei rfl rfl) (by simp)) <|
    sq_end) ?_
  clear hF hS; intro a w hF hS
  refine hK7 _ _ ?_
  clear hK7
  refine wp_if hF rfl (fun h => absurd h (by simp)) (fun _ => ?_)
  refine wp_skip ?_
  refine hK6 _ _ ?_
  clear hK6
  refine wp_seq_k ?_; intro K8 hK8
  refine wp_seq_k ?_; intro K9 hK9
  refine reg hF hS (sq rfl (q_move rfl) <|
    sq rfl (q_len_sl ty36 hb2 rfl) <|
    sq rfl (q_move rfl) <|
    sq_end) ?_
  clear hF hS; intro a w hF hS
  refine hK9 _ _ ?_
  clear hK9
  refine wp_block ?_
  obtain ⟨hs0, hhs0, hS⟩ : ∃ h, h = _ ∧ St _ _ h _ := ⟨_, rfl, hS⟩
  refine wp_loopx (γ := Dk.Dsk × Res × Res × Res × Res × Nat) ((Dk.new n), qa3, qb4, qc5, qd6, 0) (fun (gg : Dk.Dsk × Res × Res × Res × Res × Nat) => match gg with | (S, q1, q2, q3, q4, j) => [(49, vi (j : Int))]) [(0, _), (1, _), (7, _), (47, _), (48, _)] (fun (gg : Dk.Dsk × Res × Res × Res × Res × Nat) => match gg with | (S, q1, q2, q3, q4, j) => ((((hs0.set 0 (q1)).set 1 (q2)).set 2 (q3)).set 3 (q4))) (fun (gg : Dk.Dsk × Res × Res × Res × Res × Nat) => match gg with | (S, q1, q2, q3, q4, j) => j ≤ wn.length ∧ DD hh2 S q1 q2 q3 q4 ∧ Jn.Still S ∧ S.s.length = n ∧ ∀ i, i < n → Jn.txa S i = Jn.z64) (fun (gg : Dk.Dsk × Res × Res × Res × Res × Nat) => match gg with | (S, q1, q2, q3, q4, j) => wn.length - j) (hF.sub ⟨rfl, rfl, rfl, rfl, rfl, rfl, trivial⟩) (by subst hhs0; exact hS) (by exact ⟨Nat.zero_le _, hD7, Jn.still_new, Dk.new_len _, fun i hi => Jn.new_txa hi⟩) ?_
  clear hF hS; rintro ⟨S, q1, q2, q3, q4, j⟩ a w hfact hF hS
  subst hhs0; (try dsimp only at hfact); (try dsimp only at hF); (try dsimp only at hS)
  obtain ⟨hj0, hDq, hst, hsl, hzz⟩ := hfact
  have hOS := Dk.DOk.ok hDq
  replace hS : St _ [] [_, _, _, _] _ := hS
  refine wp_seq_k ?_; intro K10 hK10
  refine reg hF hS (sq rfl (q_lti rfl rfl) <|
    sq_end) ?_
  clear hF hS; intro a w hF hS
  refine hK10 _ _ ?_
  clear hK10
  refine wp_seq_k ?_; intro K11 hK11
  refine wp_ifd hF rfl (fun hc3 => ?_) (fun hc3 => ?_)
  ·have hwi1 : 0 ≤ (((wn.getD ((j : Int)).toNat 0).toNat : Int) % (n : Int)) := Int.emod_nonneg _ (by omega)
   have hwi2 : (((wn.getD ((j : Int)).toNat 0).toNat : Int) % (n : Int)) < (n : Int) := Int.emod_lt_of_pos _ (by omega)
   refine wp_skip ?_
   refine hK11 _ _ ?_
   clear hK11
   refine wp_seq_k ?_; intro K12 hK12
   refine wp_block ?_
   refine wp_seq_k ?_; intro K13 hK13
   refine reg hF hS (sq rfl (q_idx_sl ty36 ty5 hb2 rfl rfl (by omega)) <|
     sq rfl (q_ld_B ty5 hb2 zin0 rfl rfl (by omega)) <|
     sq rfl (q_assign rfl) <|
     sq_end) ?_
   clear hF hS; intro a w hF hS
   refine hK13 _ _ ?_
   clear hK13
   refine regl ?_
   refine wpl_sq hF hS (sq rfl (q_move rfl) <|
     sq rfl (q_move rfl) <|
     sq rfl (q_cv_bi ty5 ty3 rfl) <|
     sq rfl (q_move rfl) <|
     sq rfl (q_remi rfl rfl (by omega)) <|
     sq_end) ?_
   clear hF hS; intro a w hF hS
   refine wpl_ef hF hS rfl (ef_callx fn14 rfl (List.Perm.refl _) (by exact (dwear_ct _ _ _ (by omega) _ _  hDq))) ?_
   clear hF hS; rintro _ _ _ a w ⟨_, _, rfl, rfl, ⟨rfl, rfl, qa13, qb14, qc15, qd16, rfl, hD17⟩⟩ hF hS
   replace hS : St _ [] [_, _, _, _] _ := hS
   refine wpList_nil ?_
   refine hK12 _ _ ?_
   clear hK12
   refine reg hF hS (sq rfl (q_addi rfl rfl (by omega)) <|
     sq rfl (q_move rfl) <|
     sq_end) ?_
   clear hF hS; intro a w hF hS
   refine ⟨((Dk.wear S (((wn.getD ((j : Int)).toNat 0).toNat : Int) % (n : Int))).1, qa13, qb14, qc15, qd16, j + 1), ?_, ?_, hF.sub ⟨rfl, rfl, rfl, rfl, rfl, rfl, trivial⟩, ?_⟩
   ·(try dsimp only); omega
   ·obtain ⟨hk1, hk2, hk3⟩ := Jn.wear_still hst (((wn.getD ((j : Int)).toNat 0).toNat : Int) % (n : Int))
    exact ⟨by omega, hD17, hk1, hk2.trans hsl, fun i hi => (hk3 i).trans (hzz i hi)⟩
   ·exact hS
  ·have hof := hst.off
   refine wp_exit ?_
   refine hK8 _ _ ?_
   clear hK8
   refine wp_seq_k ?_; intro K14 hK14
   refine regl ?_
   refine wpl_sq hF hS (sq rfl (q_move rfl) <|
     sq_end) ?_
   clear hF hS; intro a w hF hS
   refine wpl_ef hF hS rfl (ef_callx fn15 rfl (List.Perm.refl _) (by exact (open_ct _ _ (by assumption) _ _ hg1 hDq))) ?_
   clear hF hS; rintro _ _ _ a w ⟨_, _, rfl, rfl, ⟨rfl, jb19, qa20, qb21, qc22, qd23, ua24, ub25, uc26, ud27, rfl, rfl, hJ28, hD29⟩⟩ hF hS
   replace hS : St _ [] [_, _, _, _, _, _, _, _] _ := hS
   refine wpl_sq hF hS (sq rfl (q_move rfl) <|
     sq rfl (q_extract rfl rfl) <|
     sq rfl (q_extract rfl rfl) <|
     sq rfl (q_assign rfl) <|
     sq rfl (q_assign rfl) <|
     sq_end) ?_
   clear hF hS; intro a w hF hS
   refine wpList_nil ?_
   rw [Jn.opn_nil hst (fun j hj => hzz j (by omega))] at hJ28
   refine hK14 _ _ ?_
   clear hK14
   refine wp_seq_k ?_; intro K15 hK15
   refine wp_seq_k ?_; intro K16 hK16
   refine reg hF hS (sq rfl (q_move rfl) <|
     sq rfl (q_nf (q_nei rfl rfl) (by simp)) <|
     sq rfl (q_move rfl) <|
     sq_go 67 rfl rfl rfl (q_move rfl) <|
     sq_go 67 rfl rfl rfl (q_eqpn_f ty41 rfl rfl) <|
     sq rfl (q_pick_f rfl rfl) <|
     sq_end) ?_
   clear hF hS; intro a w hF hS
   refine hK16 _ _ ?_
   clear hK16
   refine wp_if hF rfl (fun h => absurd h (by simp)) (fun _ => ?_)
   refine wp_skip ?_
   refine hK15 _ _ ?_
   clear hK15
   refine wp_seq_k ?_; intro K17 hK17
   refine reg hF hS (sq rfl (q_assign rfl) <|
     sq_end) ?_
   clear hF hS; intro a w hF hS
   replace hS := hS.nilRow 3 1
   refine hK17 _ _ ?_
   clear hK17
   refine wp_seq_k ?_; intro K18 hK18
   refine reg hF hS (sq rfl (q_assign rfl) <|
     sq_end) ?_
   clear hF hS; intro a w hF hS
   replace hS := hS.nilRow 9 1
   refine hK18 _ _ ?_
   clear hK18
   refine wp_seq_k ?_; intro K19 hK19
   refine reg hF hS (sq rfl (q_assign rfl) <|
     sq_end) ?_
   clear hF hS; intro a w hF hS
   refine hK19 _ _ ?_
   clear hK19
   refine wp_seq_k ?_; intro K20 hK20
   refine wp_seq_k ?_; intro K21 hK21
   refine reg hF hS (sq rfl (q_move rfl) <|
     sq rfl (q_len_sl ty35 hb1 rfl) <|
     sq rfl (q_move rfl) <|
     sq_end) ?_
   clear hF hS; intro a w hF hS
   refine hK21 _ _ ?_
   clear hK21
   refine wp_block ?_
   obtain ⟨hs0, hhs0, hS⟩ : ∃ h, h = _ ∧ St _ _ h _ := ⟨_, rfl, hS⟩
   refine wp_loopx (γ := Dk.Dsk × Jn.JS × Value × Value × Int × Res × Res × Res × Res × Res × Res × Res × Res × Nat) (S, Jn.jnil, (Value.slice none 0 0), (Value.slice none 0 0), 0, ua24, ub25, uc26, ud27, qa20, qb21, qc22, qd23, 0) (fun (gg : Dk.Dsk × Jn.JS × Value × Value × Int × Res × Res × Res × Res × Res × Res × Res × Res × Nat) => match gg with | (S, J, un, ut, ls, q1, q2, q3, q4, p1, p2, p3, p4, j) => [(13, un), (14, ut), (15, vi ls), (73, vi (j : Int))]) [(7, _), (11, _), (71, _), (72, _)] (fun (gg : Dk.Dsk × Jn.JS × Value × Value × Int × Res × Res × Res × Res × Res × Res × Res × Res × Nat) => match gg with | (S, J, un, ut, ls, q1, q2, q3, q4, p1, p2, p3, p4, j) => ((((((((((hs0.set 6 (q1)).set 7 (q2)).set 8 (q3)).set 9 (q4)).set 2 (p1)).set 3 (p2)).set 4 (p3)).set 5 (p4)).set 1 (.row un 3 1 J.nums.length (J.nums.map vi))).set 0 (.row ut 9 1 J.tx.length (J.tx.map vs)))) (fun (gg : Dk.Dsk × Jn.JS × Value × Value × Int × Res × Res × Res × Res × Res × Res × Res × Res × Nat) => match gg with | (S, J, un, ut, ls, q1, q2, q3, q4, p1, p2, p3, p4, j) => j ≤ os.length ∧ DD hh2 S q1 q2 q3 q4 ∧ JJ jb19 hh2.b J p1 p2 p3 p4 ∧ Jn.Gon S J ∧ 0 ≤ ls ∧ ls < J.next) (fun (gg : Dk.Dsk × Jn.JS × Value × Value × Int × Res × Res × Res × Res × Res × Res × Res × Res × Nat) => match gg with | (S, J, un, ut, ls, q1, q2, q3, q4, p1, p2, p3, p4, j) => os.length - j) (hF.sub ⟨rfl, rfl, rfl, rfl, rfl, rfl, rfl, rfl, trivial⟩) (by subst hhs0; exact hS) (by exact ⟨Nat.zero_le _, hD29, hJ28, Jn.gon_nil hOS hst (fun j hj => hzz j (by omega)), Int.le_refl _, by decide⟩) ?_
   clear hF hS; rintro ⟨S, J, un, ut, ls, q1, q2, q3, q4, p1, p2, p3, p4, j⟩ a w hfact hF hS
   subst hhs0; (try dsimp only at hfact); (try dsimp only at hF); (try dsimp only at hS)
   obtain ⟨hj0, hDq, hJp, hGo, hls0, hls1⟩ := hfact
   replace hS : St _ [] [_, _, _, _, _, _, _, _, _, _] _ := hS
   have hr1 := hGo.wf.n2
   have hr2 := hGo.wf.nl
   have hr3 := hGo.wf.tl
   have hr4 := hGo.wf.e2
   refine wp_seq_k ?_; intro K22 hK22
   refine reg hF hS (sq rfl (q_lti rfl rfl) <|
     sq_end) ?_
   clear hF hS; intro a w hF hS
   refine hK22 _ _ ?_
   clear hK22
   refine wp_seq_k ?_; intro K23 hK23
   refine wp_ifd hF rfl (fun hc5 => ?_) (fun hc5 => ?_)
   ·obtain ⟨pv, hqc, hk9, hi9, hb9, hn9, hps9⟩ := st_at hb1 (k := ((j : Int)).toNat) (by omega)
    have h1p := sl_one' hps9
    refine wp_skip ?_
    refine hK23 _ _ ?_
    clear hK23
    refine wp_seq_k ?_; intro K24 hK24
    refine wp_block ?_
    refine wp_seq_k ?_; intro K25 hK25
    refine regl ?_
    refine wpl_sq hF hS (sq rfl (q_idx_sl ty35 ty46 hb1 rfl rfl (by omega)) <|
      sq rfl (q_ld_st ty46 hb1 zin0 hqc rfl rfl (by omega)) <|
      sq_end) ?_
    clear hF hS; intro a w hF hS
    refine wpl_ef hF hS rfl (ef_allocA ty46) ?_
    clear hF hS; rintro _ _ _ a w ⟨b36, rfl, rfl, rfl⟩ hF hS
    refine wpl_ef hF hS rfl (ef_storeW ty46 0 rfl rfl rfl rfl bQ (oc_cons rfl (oc_cons rfl (oc_cons rfl (oc_cons rfl (oc_cons rfl (oc_cons (sl_one' hps9) oc_nil)))))) bQ) ?_
    clear hF hS; rintro _ _ _ a w ⟨rfl, rfl, rfl⟩ hF hS
    replace hS : St _ [] [_, _, _, _, _, _, _, _, _, _, _] _ := hS
    refine wpList_nil ?_
    refine hK25 _ _ ?_
    clear hK25
    refine wp_seq_k ?_; intro K26 hK26
    refine regl ?_
    refine wpl_sq hF hS (sq rfl (q_move rfl) <|
      sq rfl (q_ld_blkW ty46 0 rfl rfl bQ rfl) <|
      sq rfl (q_call fn17 rfl (fun w hS => stext_ct _ _ _ _ _ _ (by first | assumption | rfl) w ) (fun _ _ _ h => h)) <|
      sq_end) ?_
    clear hF hS; intro a w hF hS
    replace hS := hS.perm (.cons _ (.cons _ (.swap _ _ _)))
    replace hS := hS.perm (.cons _ (.swap _ _ _))
    replace hS := hS.perm (.swap _ _ _)
    replace hS := hS.perm (.cons _ (.cons _ (.cons _ (.swap _ _ _))))
    replace hS := hS.perm (.cons _ (.cons _ (.swap _ _ _)))
    replace hS := hS.perm (.cons _ (.swap _ _ _))
    replace hS := hS.perm (.cons _ (.cons _ (.cons _ (.cons _ (.swap _ _ _)))))
    replace hS := hS.perm (.cons _ (.cons _ (.cons _ (.swap _ _ _))))
    replace hS := hS.perm (.cons _ (.cons _ (.swap _ _ _)))
    replace hS := hS.perm (.cons _ (.cons _ (.cons _ (.cons _ (.cons _ (.swap _ _ _))))))
    replace hS := hS.perm (.cons _ (.cons _ (.cons _ (.cons _ (.swap _ _ _)))))
    replace hS := hS.perm (.cons _ (.cons _ (.cons _ (.swap _ _ _))))
    replace hS := hS.perm (.cons _ (.cons _ (.cons _ (.cons _ (.cons _ (.cons _ (.swap _ _ _)))))))
    replace hS := hS.perm (.cons _ (.cons _ (.cons _ (.cons _ (.cons _ (.swap _ _ _))))))
    replace hS := hS.perm (.cons _ (.cons _ (.cons _ (.cons _ (.swap _ _ _)))))
    replace hS := hS.perm (.cons _ (.cons _ (.cons _ (.cons _ (.cons _ (.cons _ (.cons _ (.swap _ _ _))))))))
    replace hS := hS.perm (.cons _ (.cons _ (.cons _ (.cons _ (.cons _ (.cons _ (.swap _ _ _)))))))
    replace hS := hS.perm (.cons _ (.cons _ (.cons _ (.cons _ (.cons _ (.swap _ _ _))))))
    replace hS := hS.perm (.cons _ (.cons _ (.cons _ (.cons _ (.cons _ (.cons _ (.cons _ (.cons _ (.swap _ _ _)))))))))
    replace hS := hS.perm (.cons _ (.cons _ (.cons _ (.cons _ (.cons _ (.cons _ (.cons _ (.swap _ _ _))))))))
    replace hS := hS.perm (.cons _ (.cons _ (.cons _ (.cons _ (.cons _ (.cons _ (.swap _ _ _)))))))
    replace hS := hS.perm (.cons _ (.cons _ (.cons _ (.cons _ (.cons _ (.cons _ (.cons _ (.cons _ (.cons _ (.swap _ _ _))))))))))
    replace hS := hS.perm (.cons _ (.cons _ (.cons _ (.cons _ (.cons _ (.cons _ (.cons _ (.cons _ (.swap _ _ _)))))))))
    replace hS := hS.perm (.cons _ (.cons _ (.cons _ (.cons _ (.cons _ (.cons _ (.cons _ (.swap _ _ _))))))))
    replace hS : St _ [] [_, _, _, _, _, _, _, _, _, _, _] _ := hS
    refine wpl_ef hF hS rfl (ef_callx fn16 rfl (List.Perm.refl _) (by exact (jappend_ct _ _ _ _ _ _ _ hg1 hJp hDq))) ?_
    clear hF hS; rintro _ _ _ a w ⟨_, _, rfl, rfl, ⟨rfl, rfl, qa38, qb39, qc40, qd41, ua42, ub43, uc44, ud45, rfl, hJ46, hD47⟩⟩ hF hS
    replace hS : St _ [] [_, _, _, _, _, _, _, _, _, _, _] _ := hS
    refine wpl_sq hF hS (sq rfl (q_move rfl) <|
      sq rfl (q_extract rfl rfl) <|
      sq rfl (q_extract rfl rfl) <|
      sq rfl (q_assign rfl) <|
      sq rfl (q_assign rfl) <|
      sq_end) ?_
    clear hF hS; intro a w hF hS
    refine wpList_nil ?_
    obtain ⟨hG2, hlen2, hcase⟩ := Jn.gon_step hGo (Jn.txt (os.getD ((j : Int)).toNat st0).n (os.getD ((j : Int)).toNat st0).f)
    refine hK26 _ _ ?_
    clear hK26
    refine wp_seq_k ?_; intro K27 hK27
    refine reg hF hS (sq rfl (q_move rfl) <|
      sq_end) ?_
    clear hF hS; intro a w hF hS
    refine hK27 _ _ ?_
    clear hK27
    refine wp_block ?_
    refine wp_seq_k ?_; intro K28 hK28
    refine reg hF hS (sq rfl (q_eqi rfl rfl) <|
      sq rfl (q_assign rfl) <|
      sq_end) ?_
    clear hF hS; intro a w hF hS
    refine hK28 _ _ ?_
    clear hK28
    refine wp_ifd hF rfl (fun hc6 => ?_) (fun hc6 => ?_)
    ·have hcase := hcase.resolve_right (fun h9 => by have := h9.1; omega)
     obtain ⟨hz0, hz1, hz2, hz3, hz4⟩ := hcase
     refine wp_seq_k ?_; intro K29 hK29
     refine wp_seq_k ?_; intro K30 hK30
     refine reg hF hS (sq rfl (q_move rfl) <|
       sq rfl (q_move rfl) <|
       sq rfl (q_lei rfl rfl) <|
       sq_end) ?_
     clear hF hS; intro a w hF hS
     refine hK30 _ _ ?_
     clear hK30
     refine wp_ifd hF rfl (fun hc7 => ?_) (fun hc7 => ?_)
     ·exfalso; omega
     ·refine wp_skip ?_
      refine hK29 _ _ ?_
      clear hK29
      revert hS; revert hF; apply regJ (J := J4 (α0 := Value) (α1 := Value) (α2 := Value) (α3 := Value) 139 _ _ _ _ _) #[false, false, false, false, false, false, false, false, false, false, false, false, false] 13 mixed rfl rfl
      ·intro w hF hS
       refine goW_take 0 _ rfl kQ rfl hF (hS.keep sQ zQ) (q_move rfl) ?_
       clear hF; intro a hF
       refine goW_take 1 _ rfl kQ rfl hF (hS.keep sQ zQ) (q_move rfl) ?_
       clear hF; intro a hF
       refine goW_take 4 _ rfl kQ rfl hF (hS.keep sQ zQ) (q_move rfl) ?_
       clear hF; intro a hF
       refine goW_take 5 _ rfl kQ rfl hF (hS.keep sQ (zQ.k.n.n.n.n.n.n.n.n)) (q_ld_blkW ty46 0 rfl rfl bQ rfl) ?_
       clear hF; intro a hF
       refine goW_take 9 _ rfl kQ rfl hF (hS.keep sQ zQ) (q_move rfl) ?_
       clear hF; intro a hF
       refine gQ 2 rfl rfl hF hS rfl (ef_bsliceA ty44 ty3 rfl rfl oQ (by decide) rfl rfl) ?_
       clear hF hS; rintro v_26_2 _ _ a w ⟨rfl, rfl⟩ hF hS
       refine ⟨⟨.inr hS.k0, .inr (hS.k1 (zQ.k.n.n.n.n.n.n.n.n.n)), .inr hS.k0, iQ, .inr hS.k0, trivial⟩, ?_⟩
       refine gQ 3 rfl rfl hF hS rfl (ef_append ty44 ty3 11 rfl rfl rfl (src_row ty44 (k := 0) rfl oQ) bQ rfl (by decide)) ?_
       clear hF hS; rintro v_26_3 _ _ a w ⟨rfl, rfl⟩ hF hS
       refine ⟨⟨.inr hS.k0, .inr (hS.k1 (zQ.k.n.n.n.n.n.n.n.n.n)), .inr hS.k0, iQ, iQ, trivial⟩, ?_⟩
       refine gQ 6 rfl rfl hF hS rfl (ef_qt (q_call fn17 rfl (fun w hS => stext_ct _ _ _ _ _ _ (by first | assumption | rfl) w ) (fun _ _ _ h => h))) ?_
       clear hF hS; rintro _ _ _ a w ⟨rfl, rfl, rfl⟩ hF hS
       refine ⟨⟨.inr hS.k0, iQ, .inr hS.k0, iQ, iQ, trivial⟩, ?_⟩
       refine gQ 7 rfl rfl hF hS rfl (ef_bsliceA ty23 ty9 rfl rfl oQ (by decide) rfl rfl) ?_
       clear hF hS; rintro v_26_7 _ _ a w ⟨rfl, rfl⟩ hF hS
       refine ⟨⟨.inr hS.k0, iQ, .inr hS.k0, iQ, iQ, trivial⟩, ?_⟩
       refine gQ 8 rfl rfl hF hS rfl (ef_append ty23 ty9 11 rfl rfl rfl (src_row ty23 (k := 0) rfl oQ) bQ rfl (by decide)) ?_
       clear hF hS; rintro v_26_8 _ _ a w ⟨rfl, rfl⟩ hF hS
       refine ⟨⟨.inr hS.k0, iQ, iQ, iQ, iQ, trivial⟩, ?_⟩
       refine goW_take 10 _ rfl kQ rfl hF (hS.keep sQ zQ) (q_assign rfl) ?_
       clear hF; intro a hF
       refine goW_take 11 _ rfl kQ rfl hF (hS.keep sQ zQ) (q_assign rfl) ?_
       clear hF; intro a hF
       refine goW_take 12 _ rfl kQ rfl hF (hS.keep sQ zQ) (q_assign rfl) ?_
       clear hF; intro a hF
       exact goW_done kQ (j4_mk v_26_2 v_26_3 v_26_7 v_26_8 (trivial) (hF.sub (L' := [(7, _), (11, _), (13, _), (14, _), (15, _), (71, _), (72, _), (73, _)]) ⟨rfl, rfl, rfl, rfl, rfl, rfl, rfl, rfl, trivial⟩) hS)
      rintro a w ⟨v_26_2, v_26_3, v_26_7, v_26_8, -, hF, hS⟩
      (try dsimp only at hF); (try dsimp only at hS)
      refine hK24 _ _ ?_
      clear hK24
      refine reg hF hS (sq rfl (q_addi rfl rfl (by omega)) <|
        sq rfl (q_move rfl) <|
        sq_end) ?_
      clear hF hS; intro a w hF hS
      replace hS := hS.perm (.cons _ (.cons _ (.cons _ (.cons _ (.cons _ (.cons _ (.cons _ (.cons _ (.cons _ (.cons _ (.swap _ _ _)))))))))))
      replace hS := hS.perm (.cons _ (.cons _ (.cons _ (.cons _ (.cons _ (.cons _ (.cons _ (.cons _ (.cons _ (.swap _ _ _))))))))))
      replace hS := hS.perm (.cons _ (.cons _ (.cons _ (.cons _ (.cons _ (.cons _ (.cons _ (.cons _ (.swap _ _ _)))))))))
      replace hS := hS.perm (.cons _ (.cons _ (.cons _ (.cons _ (.cons _ (.cons _ (.cons _ (.swap _ _ _))))))))
      replace hS := hS.perm (.cons _ (.cons _ (.cons _ (.cons _ (.cons _ (.cons _ (.swap _ _ _)))))))
      replace hS := hS.perm (.cons _ (.cons _ (.cons _ (.cons _ (.cons _ (.swap _ _ _))))))
      replace hS := hS.perm (.cons _ (.cons _ (.cons _ (.cons _ (.swap _ _ _)))))
      replace hS := hS.perm (.cons _ (.cons _ (.cons _ (.swap _ _ _))))
      replace hS := hS.perm (.cons _ (.cons _ (.swap _ _ _)))
      replace hS := hS.perm (.cons _ (.swap _ _ _))
      replace hS := hS.perm (.swap _ _ _)
      replace hS := hS.perm (.cons _ (.cons _ (.cons _ (.cons _ (.cons _ (.cons _ (.cons _ (.cons _ (.cons _ (.cons _ (.cons _ (.swap _ _ _))))))))))))
      replace hS := hS.perm (.cons _ (.cons _ (.cons _ (.cons _ (.cons _ (.cons _ (.cons _ (.cons _ (.cons _ (.cons _ (.swap _ _ _)))))))))))
      replace hS := hS.perm (.cons _ (.cons _ (.cons _ (.cons _ (.cons _ (.cons _ (.cons _ (.cons _ (.cons _ (.swap _ _ _))))))))))
      replace hS := hS.perm (.cons _ (.cons _ (.cons _ (.cons _ (.cons _ (.cons _ (.cons _ (.cons _ (.swap _ _ _)))))))))
      replace hS := hS.perm (.cons _ (.cons _ (.cons _ (.cons _ (.cons _ (.cons _ (.cons _ (.swap _ _ _))))))))
      replace hS := hS.perm (.cons _ (.cons _ (.cons _ (.cons _ (.cons _ (.cons _ (.swap _ _ _)))))))
      replace hS := hS.perm (.cons _ (.cons _ (.cons _ (.cons _ (.cons _ (.swap _ _ _))))))
      replace hS := hS.perm (.cons _ (.cons _ (.cons _ (.cons _ (.swap _ _ _)))))
      replace hS := hS.perm (.cons _ (.cons _ (.cons _ (.swap _ _ _))))
      replace hS := hS.perm (.cons _ (.cons _ (.swap _ _ _)))
      replace hS := hS.perm (.cons _ (.swap _ _ _))
      replace hS := hS.perm (.cons _ (.cons _ (.cons _ (.swap _ _ _))))
      replace hS := hS.perm (.cons _ (.cons _ (.swap _ _ _)))
      replace hS := hS.perm (.cons _ (.cons _ (.cons _ (.cons _ (.swap _ _ _)))))
      replace hS := hS.perm (.cons _ (.cons _ (.cons _ (.swap _ _ _))))
      replace hS := hS.perm (.cons _ (.cons _ (.cons _ (.cons _ (.cons _ (.swap _ _ _))))))
      replace hS := hS.perm (.cons _ (.cons _ (.cons _ (.cons _ (.swap _ _ _)))))
      replace hS := hS.perm (.cons _ (.cons _ (.cons _ (.cons _ (.cons _ (.cons _ (.swap _ _ _)))))))
      replace hS := hS.perm (.cons _ (.cons _ (.cons _ (.cons _ (.cons _ (.swap _ _ _))))))
      replace hS := hS.perm (.cons _ (.cons _ (.cons _ (.cons _ (.cons _ (.cons _ (.cons _ (.swap _ _ _))))))))
      replace hS := hS.perm (.cons _ (.cons _ (.cons _ (.cons _ (.cons _ (.cons _ (.swap _ _ _)))))))
      replace hS := hS.perm (.cons _ (.cons _ (.cons _ (.cons _ (.cons _ (.cons _ (.cons _ (.cons _ (.swap _ _ _)))))))))
      replace hS := hS.perm (.cons _ (.cons _ (.cons _ (.cons _ (.cons _ (.cons _ (.cons _ (.swap _ _ _))))))))
      replace hS := hS.perm (.cons _ (.cons _ (.cons _ (.cons _ (.cons _ (.cons _ (.cons _ (.cons _ (.cons _ (.swap _ _ _))))))))))
      replace hS := hS.perm (.cons _ (.cons _ (.cons _ (.cons _ (.cons _ (.cons _ (.cons _ (.cons _ (.swap _ _ _)))))))))
      replace hS := hS.perm (.cons _ (.cons _ (.cons _ (.cons _ (.cons _ (.cons _ (.cons _ (.cons _ (.cons _ (.cons _ (.swap _ _ _)))))))))))
      replace hS := hS.perm (.cons _ (.cons _ (.cons _ (.cons _ (.cons _ (.cons _ (.cons _ (.cons _ (.cons _ (.swap _ _ _))))))))))
      replace hS := hS.keep zQ (zQ.k.k.k.k.k.k.k.k.k.k)
      refine ⟨((Jn.app J S (Jn.txt (os.getD ((j : Int)).toNat st0).n (os.getD ((j : Int)).toNat st0).f)).2.1, (Jn.app J S (Jn.txt (os.getD ((j : Int)).toNat st0).n (os.getD ((j : Int)).toNat st0).f)).1, v_26_3, v_26_8, (Jn.app J S (Jn.txt (os.getD ((j : Int)).toNat st0).n (os.getD ((j : Int)).toNat st0).f)).2.2.1, ua42, ub43, uc44, ud45, qa38, qb39, qc40, qd41, j + 1), ?_, ?_, hF.sub ⟨rfl, rfl, rfl, rfl, rfl, rfl, rfl, rfl, trivial⟩, ?_⟩
      ·(try dsimp only); omega
      ·exact ⟨by omega, hD47, hJ46, hG2, by omega, by omega⟩
      ·(try dsimp only [List.set_cons_zero, List.set_cons_succ])
       rw [hz3, hz4, List.length_append, List.length_append, List.map_append, List.map_append]
       rw [hz1] at hS
       exact hS
    ·have hcase := hcase.resolve_left (fun h9 => hc6 h9.1)
     obtain ⟨hz0, hz1, hz2, hz3⟩ := hcase
     refine wp_seq_k ?_; intro K31 hK31
     refine wp_seq_k ?_; intro K32 hK32
     refine reg hF hS (sq rfl (q_eqi rfl rfl) <|
       sq rfl (q_assign rfl) <|
       sq_end) ?_
     clear hF hS; intro a w hF hS
     refine hK32 _ _ ?_
     clear hK32
     refine wp_ifd hF rfl (fun hc8 => ?_) (fun hc8 => ?_)
     ·refine wp_skip ?_
      refine hK31 _ _ ?_
      clear hK31
      refine wp_ifd hF rfl (fun hc9 => ?_) (fun hc9 => ?_)
      ·refine wp_skip ?_
       refine hK24 _ _ ?_
       clear hK24
       refine reg hF hS (sq rfl (q_addi rfl rfl (by omega)) <|
         sq rfl (q_move rfl) <|
         sq_end) ?_
       clear hF hS; intro a w hF hS
       replace hS := hS.perm (.cons _ (.cons _ (.cons _ (.cons _ (.cons _ (.cons _ (.cons _ (.cons _ (.swap _ _ _)))))))))
       replace hS := hS.perm (.cons _ (.cons _ (.cons _ (.cons _ (.cons _ (.cons _ (.cons _ (.swap _ _ _))))))))
       replace hS := hS.perm (.cons _ (.cons _ (.cons _ (.cons _ (.cons _ (.cons _ (.swap _ _ _)))))))
       replace hS := hS.perm (.cons _ (.cons _ (.cons _ (.cons _ (.cons _ (.swap _ _ _))))))
       replace hS := hS.perm (.cons _ (.cons _ (.cons _ (.cons _ (.swap _ _ _)))))
       replace hS := hS.perm (.cons _ (.cons _ (.cons _ (.swap _ _ _))))
       replace hS := hS.perm (.cons _ (.cons _ (.swap _ _ _)))
       replace hS := hS.perm (.cons _ (.swap _ _ _))
       replace hS := hS.perm (.swap _ _ _)
       replace hS := hS.perm (.cons _ (.cons _ (.cons _ (.cons _ (.cons _ (.cons _ (.cons _ (.cons _ (.cons _ (.swap _ _ _))))))))))
       replace hS := hS.perm (.cons _ (.cons _ (.cons _ (.cons _ (.cons _ (.cons _ (.cons _ (.cons _ (.swap _ _ _)))))))))
       replace hS := hS.perm (.cons _ (.cons _ (.cons _ (.cons _ (.cons _ (.cons _ (.cons _ (.swap _ _ _))))))))
       replace hS := hS.perm (.cons _ (.cons _ (.cons _ (.cons _ (.cons _ (.cons _ (.swap _ _ _)))))))
       replace hS := hS.perm (.cons _ (.cons _ (.cons _ (.cons _ (.cons _ (.swap _ _ _))))))
       replace hS := hS.perm (.cons _ (.cons _ (.cons _ (.cons _ (.swap _ _ _)))))
       replace hS := hS.perm (.cons _ (.cons _ (.cons _ (.swap _ _ _))))
       replace hS := hS.perm (.cons _ (.cons _ (.swap _ _ _)))
       replace hS := hS.perm (.cons _ (.swap _ _ _))
       replace hS := hS.keep zQ (zQ.k.k.k.k.k.k.k.k.k.k)
       refine ⟨((Jn.app J S (Jn.txt (os.getD ((j : Int)).toNat st0).n (os.getD ((j : Int)).toNat st0).f)).2.1, (Jn.app J S (Jn.txt (os.getD ((j : Int)).toNat st0).n (os.getD ((j : Int)).toNat st0).f)).1, un, ut, ls, ua42, ub43, uc44, ud45, qa38, qb39, qc40, qd41, j + 1), ?_, ?_, hF.sub ⟨rfl, rfl, rfl, rfl, rfl, rfl, rfl, rfl, trivial⟩, ?_⟩
       ·(try dsimp only); omega
       ·exact ⟨by omega, hD47, hJ46, hG2, by omega, by omega⟩
       ·(try dsimp only [List.set_cons_zero, List.set_cons_succ])
        rw [hz2, hz3]
        exact hS
      ·exfalso; omega
     ·refine wp_seq_k ?_; intro K33 hK33
      refine reg hF hS (sq rfl (q_eqi rfl rfl) <|
        sq rfl (q_assign rfl) <|
        sq_end) ?_
      clear hF hS; intro a w hF hS
      refine hK33 _ _ ?_
      clear hK33
      refine wp_ifd hF rfl (fun hc10 => ?_) (fun hc10 => ?_)
      ·refine wp_skip ?_
       refine hK31 _ _ ?_
       clear hK31
       refine wp_ifd hF rfl (fun hc11 => ?_) (fun hc11 => ?_)
       ·refine wp_skip ?_
        refine hK24 _ _ ?_
        clear hK24
        refine reg hF hS (sq rfl (q_addi rfl rfl (by omega)) <|
          sq rfl (q_move rfl) <|
          sq_end) ?_
        clear hF hS; intro a w hF hS
        replace hS := hS.perm (.cons _ (.cons _ (.cons _ (.cons _ (.cons _ (.cons _ (.cons _ (.cons _ (.swap _ _ _)))))))))
        replace hS := hS.perm (.cons _ (.cons _ (.cons _ (.cons _ (.cons _ (.cons _ (.cons _ (.swap _ _ _))))))))
        replace hS := hS.perm (.cons _ (.cons _ (.cons _ (.cons _ (.cons _ (.cons _ (.swap _ _ _)))))))
        replace hS := hS.perm (.cons _ (.cons _ (.cons _ (.cons _ (.cons _ (.swap _ _ _))))))
        replace hS := hS.perm (.cons _ (.cons _ (.cons _ (.cons _ (.swap _ _ _)))))
        replace hS := hS.perm (.cons _ (.cons _ (.cons _ (.swap _ _ _))))
        replace hS := hS.perm (.cons _ (.cons _ (.swap _ _ _)))
        replace hS := hS.perm (.cons _ (.swap _ _ _))
        replace hS := hS.perm (.swap _ _ _)
        replace hS := hS.perm (.cons _ (.cons _ (.cons _ (.cons _ (.cons _ (.cons _ (.cons _ (.cons _ (.cons _ (.swap _ _ _))))))))))
        replace hS := hS.perm (.cons _ (.cons _ (.cons _ (.cons _ (.cons _ (.cons _ (.cons _ (.cons _ (.swap _ _ _)))))))))
        replace hS := hS.perm (.cons _ (.cons _ (.cons _ (.cons _ (.cons _ (.cons _ (.cons _ (.swap _ _ _))))))))
        replace hS := hS.perm (.cons _ (.cons _ (.cons _ (.cons _ (.cons _ (.cons _ (.swap _ _ _)))))))
        replace hS := hS.perm (.cons _ (.cons _ (.cons _ (.cons _ (.cons _ (.swap _ _ _))))))
        replace hS := hS.perm (.cons _ (.cons _ (.cons _ (.cons _ (.swap _ _ _)))))
        replace hS := hS.perm (.cons _ (.cons _ (.cons _ (.swap _ _ _))))
        replace hS := hS.perm (.cons _ (.cons _ (.swap _ _ _)))
        replace hS := hS.perm (.cons _ (.swap _ _ _))
        replace hS := hS.keep zQ (zQ.k.k.k.k.k.k.k.k.k.k)
        refine ⟨((Jn.app J S (Jn.txt (os.getD ((j : Int)).toNat st0).n (os.getD ((j : Int)).toNat st0).f)).2.1, (Jn.app J S (Jn.txt (os.getD ((j : Int)).toNat st0).n (os.getD ((j : Int)).toNat st0).f)).1, un, ut, ls, ua42, ub43, uc44, ud45, qa38, qb39, qc40, qd41, j + 1), ?_, ?_, hF.sub ⟨rfl, rfl, rfl, rfl, rfl, rfl, rfl, rfl, trivial⟩, ?_⟩
        ·(try dsimp only); omega
        ·exact ⟨by omega, hD47, hJ46, hG2, by omega, by omega⟩
        ·(try dsimp only [List.set_cons_zero, List.set_cons_succ])
         rw [hz2, hz3]
         exact hS
       ·exfalso; omega
      ·refine reg hF hS (sq rfl (q_eqi rfl rfl) <|
         sq rfl (q_assign rfl) <|
         sq_end) ?_
       clear hF hS; intro a w hF hS
       refine hK31 _ _ ?_
       clear hK31
       refine wp_ifd hF rfl (fun hc12 => ?_) (fun hc12 => ?_)
       ·refine wp_skip ?_
        refine hK24 _ _ ?_
        clear hK24
        refine reg hF hS (sq rfl (q_addi rfl rfl (by omega)) <|
          sq rfl (q_move rfl) <|
          sq_end) ?_
        clear hF hS; intro a w hF hS
        replace hS := hS.perm (.cons _ (.cons _ (.cons _ (.cons _ (.cons _ (.cons _ (.cons _ (.cons _ (.swap _ _ _)))))))))
        replace hS := hS.perm (.cons _ (.cons _ (.cons _ (.cons _ (.cons _ (.cons _ (.cons _ (.swap _ _ _))))))))
        replace hS := hS.perm (.cons _ (.cons _ (.cons _ (.cons _ (.cons _ (.cons _ (.swap _ _ _)))))))
        replace hS := hS.perm (.cons _ (.cons _ (.cons _ (.cons _ (.cons _ (.swap _ _ _))))))
        replace hS := hS.perm (.cons _ (.cons _ (.cons _ (.cons _ (.swap _ _ _)))))
        replace hS := hS.perm (.cons _ (.cons _ (.cons _ (.swap _ _ _))))
        replace hS := hS.perm (.cons _ (.cons _ (.swap _ _ _)))
        replace hS := hS.perm (.cons _ (.swap _ _ _))
        replace hS := hS.perm (.swap _ _ _)
        replace hS := hS.perm (.cons _ (.cons _ (.cons _ (.cons _ (.cons _ (.cons _ (.cons _ (.cons _ (.cons _ (.swap _ _ _))))))))))
        replace hS := hS.perm (.cons _ (.cons _ (.cons _ (.cons _ (.cons _ (.cons _ (.cons _ (.cons _ (.swap _ _ _)))))))))
        replace hS := hS.perm (.cons _ (.cons _ (.cons _ (.cons _ (.cons _ (.cons _ (.cons _ (.swap _ _ _))))))))
        replace hS := hS.perm (.cons _ (.cons _ (.cons _ (.cons _ (.cons _ (.cons _ (.swap _ _ _)))))))
        replace hS := hS.perm (.cons _ (.cons _ (.cons _ (.cons _ (.cons _ (.swap _ _ _))))))
        replace hS := hS.perm (.cons _ (.cons _ (.cons _ (.cons _ (.swap _ _ _)))))
        replace hS := hS.perm (.cons _ (.cons _ (.cons _ (.swap _ _ _))))
        replace hS := hS.perm (.cons _ (.cons _ (.swap _ _ _)))
        replace hS := hS.perm (.cons _ (.swap _ _ _))
        replace hS := hS.keep zQ (zQ.k.k.k.k.k.k.k.k.k.k)
        refine ⟨((Jn.app J S (Jn.txt (os.getD ((j : Int)).toNat st0).n (os.getD ((j : Int)).toNat st0).f)).2.1, (Jn.app J S (Jn.txt (os.getD ((j : Int)).toNat st0).n (os.getD ((j : Int)).toNat st0).f)).1, un, ut, ls, ua42, ub43, uc44, ud45, qa38, qb39, qc40, qd41, j + 1), ?_, ?_, hF.sub ⟨rfl, rfl, rfl, rfl, rfl, rfl, rfl, rfl, trivial⟩, ?_⟩
        ·(try dsimp only); omega
        ·exact ⟨by omega, hD47, hJ46, hG2, by omega, by omega⟩
        ·(try dsimp only [List.set_cons_zero, List.set_cons_succ])
         rw [hz2, hz3]
         exact hS
       ·exfalso; omega
   ·have hof := hGo.still.off
    obtain ⟨he1, he2⟩ := Jn.gon_end hGo
    have hw1 := hGo.wf.nr'
    have hw2 := hGo.wf.tr'
    have hw3 := hGo.wf.nl
    have hw4 := hGo.wf.tl
    have hw5 := hGo.wf.e2
    have hw6 : (Jn.opn S).nums.length = J.nums.length := by rw [he1]
    have hw7 : (Jn.opn S).tx.length = J.tx.length := by rw [he2]
    refine wp_exit ?_
    refine hK20 _ _ ?_
    clear hK20
    refine wp_seq_k ?_; intro K34 hK34
    refine regl ?_
    refine wpl_sq hF hS (sq rfl (q_move rfl) <|
      sq_end) ?_
    clear hF hS; intro a w hF hS
    replace hS := hS.perm (.cons _ (.cons _ (.cons _ (.cons _ (.cons _ (.swap _ _ _))))))
    replace hS := hS.perm (.cons _ (.cons _ (.cons _ (.cons _ (.swap _ _ _)))))
    replace hS := hS.perm (.cons _ (.cons _ (.cons _ (.swap _ _ _))))
    replace hS := hS.perm (.cons _ (.cons _ (.swap _ _ _)))
    replace hS := hS.perm (.cons _ (.swap _ _ _))
    replace hS := hS.perm (.swap _ _ _)
    replace hS := hS.perm (.cons _ (.cons _ (.cons _ (.cons _ (.cons _ (.cons _ (.swap _ _ _)))))))
    replace hS := hS.perm (.cons _ (.cons _ (.cons _ (.cons _ (.cons _ (.swap _ _ _))))))
    replace hS := hS.perm (.cons _ (.cons _ (.cons _ (.cons _ (.swap _ _ _)))))
    replace hS := hS.perm (.cons _ (.cons _ (.cons _ (.swap _ _ _))))
    replace hS := hS.perm (.cons _ (.cons _ (.swap _ _ _)))
    replace hS := hS.perm (.cons _ (.swap _ _ _))
    replace hS := hS.perm (.cons _ (.cons _ (.cons _ (.cons _ (.cons _ (.cons _ (.cons _ (.swap _ _ _))))))))
    replace hS := hS.perm (.cons _ (.cons _ (.cons _ (.cons _ (.cons _ (.cons _ (.swap _ _ _)))))))
    replace hS := hS.perm (.cons _ (.cons _ (.cons _ (.cons _ (.cons _ (.swap _ _ _))))))
    replace hS := hS.perm (.cons _ (.cons _ (.cons _ (.cons _ (.swap _ _ _)))))
    replace hS := hS.perm (.cons _ (.cons _ (.cons _ (.swap _ _ _))))
    replace hS := hS.perm (.cons _ (.cons _ (.swap _ _ _)))
    replace hS := hS.perm (.cons _ (.cons _ (.cons _ (.cons _ (.cons _ (.cons _ (.cons _ (.cons _ (.swap _ _ _)))))))))
    replace hS := hS.perm (.cons _ (.cons _ (.cons _ (.cons _ (.cons _ (.cons _ (.cons _ (.swap _ _ _))))))))
    replace hS := hS.perm (.cons _ (.cons _ (.cons _ (.cons _ (.cons _ (.cons _ (.swap _ _ _)))))))
    replace hS := hS.perm (.cons _ (.cons _ (.cons _ (.cons _ (.cons _ (.swap _ _ _))))))
    replace hS := hS.perm (.cons _ (.cons _ (.cons _ (.cons _ (.swap _ _ _)))))
    replace hS := hS.perm (.cons _ (.cons _ (.cons _ (.swap _ _ _))))
    replace hS : St _ [] [_, _, _, _, _, _, _, _, _, _] _ := hS
    refine wpl_ef hF hS rfl (ef_callx fn15 rfl (List.Perm.refl _) (by exact (open_ct _ _ (by assumption) _ _ hg1 hDq))) ?_
    clear hF hS; rintro _ _ _ a w ⟨_, _, rfl, rfl, ⟨rfl, jb49, qa50, qb51, qc52, qd53, ua54, ub55, uc56, ud57, rfl, rfl, hJ58, hD59⟩⟩ hF hS
    replace hS : St _ [] [_, _, _, _, _, _, _, _, _, _, _, _, _, _] _ := hS
    refine wpl_sq hF hS (sq rfl (q_move rfl) <|
      sq rfl (q_extract rfl rfl) <|
      sq rfl (q_extract rfl rfl) <|
      sq rfl (q_assign rfl) <|
      sq rfl (q_assign rfl) <|
      sq_end) ?_
    clear hF hS; intro a w hF hS
    refine wpList_nil ?_
    refine hK34 _ _ ?_
    clear hK34
    refine wp_seq_k ?_; intro K35 hK35
    refine regl ?_
    refine wpl_sq hF hS (sq rfl (q_call fn5 rfl (fun w hS => sanity40_ct w (hS.ext _ _ hg1)) (fun _ _ _ h => h)) <|
      sq rfl (q_move rfl) <|
      sq_go 111 rfl rfl rfl (q_move rfl) <|
      sq_go 111 rfl rfl rfl (q_dt (q_eqi rfl rfl) (by simp)) <|
      sq rfl (q_pick_t rfl rfl) <|
      sq rfl (q_move rfl) <|
      sq_go 115 rfl rfl rfl (q_move rfl) <|
      sq_end) ?_
    clear hF hS; intro a w hF hS
    replace hS := hS.perm (.cons _ (.cons _ (.cons _ (.cons _ (.cons _ (.cons _ (.cons _ (.cons _ (.cons _ (.swap _ _ _))))))))))
    replace hS := hS.perm (.cons _ (.cons _ (.cons _ (.cons _ (.cons _ (.cons _ (.cons _ (.cons _ (.swap _ _ _)))))))))
    replace hS := hS.perm (.cons _ (.cons _ (.cons _ (.cons _ (.cons _ (.cons _ (.cons _ (.swap _ _ _))))))))
    replace hS := hS.perm (.cons _ (.cons _ (.cons _ (.cons _ (.cons _ (.cons _ (.swap _ _ _)))))))
    replace hS := hS.perm (.cons _ (.cons _ (.cons _ (.cons _ (.cons _ (.swap _ _ _))))))
    replace hS := hS.perm (.cons _ (.cons _ (.cons _ (.cons _ (.swap _ _ _)))))
    replace hS := hS.perm (.cons _ (.cons _ (.cons _ (.swap _ _ _))))
    replace hS := hS.perm (.cons _ (.cons _ (.swap _ _ _)))
    replace hS := hS.perm (.cons _ (.swap _ _ _))
    replace hS := hS.perm (.swap _ _ _)
    replace hS := hS.perm (.cons _ (.cons _ (.cons _ (.cons _ (.cons _ (.cons _ (.cons _ (.cons _ (.cons _ (.cons _ (.swap _ _ _)))))))))))
    replace hS := hS.perm (.cons _ (.cons _ (.cons _ (.cons _ (.cons _ (.cons _ (.cons _ (.cons _ (.cons _ (.swap _ _ _))))))))))
    replace hS := hS.perm (.cons _ (.cons _ (.cons _ (.cons _ (.cons _ (.cons _ (.cons _ (.cons _ (.swap _ _ _)))))))))
    replace hS := hS.perm (.cons _ (.cons _ (.cons _ (.cons _ (.cons _ (.cons _ (.cons _ (.swap _ _ _))))))))
    replace hS := hS.perm (.cons _ (.cons _ (.cons _ (.cons _ (.cons _ (.cons _ (.swap _ _ _)))))))
    replace hS := hS.perm (.cons _ (.cons _ (.cons _ (.cons _ (.cons _ (.swap _ _ _))))))
    replace hS := hS.perm (.cons _ (.cons _ (.cons _ (.cons _ (.swap _ _ _)))))
    replace hS := hS.perm (.cons _ (.cons _ (.cons _ (.swap _ _ _))))
    replace hS := hS.perm (.cons _ (.cons _ (.swap _ _ _)))
    replace hS := hS.perm (.cons _ (.swap _ _ _))
    replace hS := hS.perm (.cons _ (.cons _ (.cons _ (.cons _ (.cons _ (.cons _ (.cons _ (.cons _ (.cons _ (.cons _ (.cons _ (.swap _ _ _))))))))))))
    replace hS := hS.perm (.cons _ (.cons _ (.cons _ (.cons _ (.cons _ (.cons _ (.cons _ (.cons _ (.cons _ (.cons _ (.swap _ _ _)))))))))))
    replace hS := hS.perm (.cons _ (.cons _ (.cons _ (.cons _ (.cons _ (.cons _ (.cons _ (.cons _ (.cons _ (.swap _ _ _))))))))))
    replace hS := hS.perm (.cons _ (.cons _ (.cons _ (.cons _ (.cons _ (.cons _ (.cons _ (.cons _ (.swap _ _ _)))))))))
    replace hS := hS.perm (.cons _ (.cons _ (.cons _ (.cons _ (.cons _ (.cons _ (.cons _ (.swap _ _ _))))))))
    replace hS := hS.perm (.cons _ (.cons _ (.cons _ (.cons _ (.cons _ (.cons _ (.swap _ _ _)))))))
    replace hS := hS.perm (.cons _ (.cons _ (.cons _ (.cons _ (.cons _ (.swap _ _ _))))))
    replace hS := hS.perm (.cons _ (.cons _ (.cons _ (.cons _ (.swap _ _ _)))))
    replace hS := hS.perm (.cons _ (.cons _ (.cons _ (.swap _ _ _))))
    replace hS := hS.perm (.cons _ (.cons _ (.swap _ _ _)))
    replace hS := hS.perm (.cons _ (.cons _ (.cons _ (.cons _ (.cons _ (.cons _ (.cons _ (.cons _ (.cons _ (.cons _ (.cons _ (.cons _ (.swap _ _ _)))))))))))))
    replace hS := hS.perm (.cons _ (.cons _ (.cons _ (.cons _ (.cons _ (.cons _ (.cons _ (.cons _ (.cons _ (.cons _ (.cons _ (.swap _ _ _))))))))))))
    replace hS := hS.perm (.cons _ (.cons _ (.cons _ (.cons _ (.cons _ (.cons _ (.cons _ (.cons _ (.cons _ (.cons _ (.swap _ _ _)))))))))))
    replace hS := hS.perm (.cons _ (.cons _ (.cons _ (.cons _ (.cons _ (.cons _ (.cons _ (.cons _ (.cons _ (.swap _ _ _))))))))))
    replace hS := hS.perm (.cons _ (.cons _ (.cons _ (.cons _ (.cons _ (.cons _ (.cons _ (.cons _ (.swap _ _ _)))))))))
    replace hS := hS.perm (.cons _ (.cons _ (.cons _ (.cons _ (.cons _ (.cons _ (.cons _ (.swap _ _ _))))))))
    replace hS := hS.perm (.cons _ (.cons _ (.cons _ (.cons _ (.cons _ (.cons _ (.swap _ _ _)))))))
    replace hS := hS.perm (.cons _ (.cons _ (.cons _ (.cons _ (.cons _ (.swap _ _ _))))))
    replace hS := hS.perm (.cons _ (.cons _ (.cons _ (.cons _ (.swap _ _ _)))))
    replace hS := hS.perm (.cons _ (.cons _ (.cons _ (.swap _ _ _))))
    replace hS : St _ [] [_, _, _, _, _, _, _, _, _, _, _, _, _, _] _ := hS
    refine wpl_efg hF hS (wanted_go 115 rfl rfl) rfl (ef_callx fn19 rfl (List.Perm.refl _) (by exact (jnumbers_ct _ _ _ _ _  hJp))) ?_
    clear hF hS; rintro v64 _ _ a w ⟨_, _, rfl, rfl, ⟨rfl, qa65, qb66, qc67, qd68, rfl, hJ69⟩⟩ hF hS
    replace hS : St _ [] [_, _, _, _, _, _, _, _, _, _, _, _, _, _, _] _ := hS
    refine wpl_sq hF hS (sq_go 115 rfl rfl rfl (q_move rfl) <|
      sq_go 115 rfl rfl rfl (q_call fn18 rfl (fun w hS => samei_t _ _ _ w (own_slV (f := vi) (xs := J.nums) (hS.own _ (List.mem_of_getElem? (i := 0) rfl)).1 (hw1) rfl (by first | decide | omega)) (own_slV (f := vi) (xs := J.nums) (hS.own _ (List.mem_of_getElem? (i := 14) rfl)).1 (hw1) rfl (by first | decide | omega))) (fun _ _ _ h => h)) <|
      sq rfl (q_pick_t rfl rfl) <|
      sq rfl (q_move rfl) <|
      sq_go 121 rfl rfl rfl (q_move rfl) <|
      sq_end) ?_
    clear hF hS; intro a w hF hS
    replace hS := hS.perm (.swap _ _ _)
    replace hS := hS.perm (.cons _ (.swap _ _ _))
    replace hS := hS.perm (.cons _ (.cons _ (.swap _ _ _)))
    replace hS := hS.perm (.cons _ (.cons _ (.cons _ (.swap _ _ _))))
    replace hS : St _ [] [_, _, _, _, _, _, _, _, _, _, _, _, _, _, _] _ := hS
    refine wpl_efg hF hS (wanted_go 121 rfl rfl) rfl (ef_callx fn20 rfl (List.Perm.refl _) (by exact (jtexts_ct _ _ _ _ _  hJ69))) ?_
    clear hF hS; rintro v71 _ _ a w ⟨_, _, rfl, rfl, ⟨rfl, qa72, qb73, qc74, qd75, rfl, hJ76⟩⟩ hF hS
    replace hS : St _ [] [_, _, _, _, _, _, _, _, _, _, _, _, _, _, _, _] _ := hS
    refine wpl_sq hF hS (sq_go 121 rfl rfl rfl (q_move rfl) <|
      sq_go 121 rfl rfl rfl (q_call fn10 rfl (fun w hS => samet_t _ _ _ w (own_slV (f := vs) (xs := J.tx) (hS.own _ (List.mem_of_getElem? (i := 0) rfl)).1 (hw2) rfl (by first | decide | omega)) (own_slV (f := vs) (xs := J.tx) (hS.own _ (List.mem_of_getElem? (i := 14) rfl)).1 (hw2) rfl (by first | decide | omega))) (fun _ _ _ h => h)) <|
      sq rfl (q_pick_t rfl rfl) <|
      sq rfl (q_move rfl) <|
      sq_go 127 rfl rfl rfl (q_move rfl) <|
      sq_end) ?_
    clear hF hS; intro a w hF hS
    replace hS := hS.perm (.cons _ (.cons _ (.cons _ (.cons _ (.cons _ (.swap _ _ _))))))
    replace hS := hS.perm (.cons _ (.cons _ (.cons _ (.cons _ (.swap _ _ _)))))
    replace hS := hS.perm (.cons _ (.cons _ (.cons _ (.swap _ _ _))))
    replace hS := hS.perm (.cons _ (.cons _ (.swap _ _ _)))
    replace hS := hS.perm (.cons _ (.swap _ _ _))
    replace hS := hS.perm (.swap _ _ _)
    replace hS := hS.perm (.cons _ (.cons _ (.cons _ (.cons _ (.cons _ (.cons _ (.swap _ _ _)))))))
    replace hS := hS.perm (.cons _ (.cons _ (.cons _ (.cons _ (.cons _ (.swap _ _ _))))))
    replace hS := hS.perm (.cons _ (.cons _ (.cons _ (.cons _ (.swap _ _ _)))))
    replace hS := hS.perm (.cons _ (.cons _ (.cons _ (.swap _ _ _))))
    replace hS := hS.perm (.cons _ (.cons _ (.swap _ _ _)))
    replace hS := hS.perm (.cons _ (.swap _ _ _))
    replace hS := hS.perm (.cons _ (.cons _ (.cons _ (.cons _ (.cons _ (.cons _ (.cons _ (.swap _ _ _))))))))
    replace hS := hS.perm (.cons _ (.cons _ (.cons _ (.cons _ (.cons _ (.cons _ (.swap _ _ _)))))))
    replace hS := hS.perm (.cons _ (.cons _ (.cons _ (.cons _ (.cons _ (.swap _ _ _))))))
    replace hS := hS.perm (.cons _ (.cons _ (.cons _ (.cons _ (.swap _ _ _)))))
    replace hS := hS.perm (.cons _ (.cons _ (.cons _ (.swap _ _ _))))
    replace hS := hS.perm (.cons _ (.cons _ (.swap _ _ _)))
    replace hS := hS.perm (.cons _ (.cons _ (.cons _ (.cons _ (.cons _ (.cons _ (.cons _ (.cons _ (.swap _ _ _)))))))))
    replace hS := hS.perm (.cons _ (.cons _ (.cons _ (.cons _ (.cons _ (.cons _ (.cons _ (.swap _ _ _))))))))
    replace hS := hS.perm (.cons _ (.cons _ (.cons _ (.cons _ (.cons _ (.cons _ (.swap _ _ _)))))))
    replace hS := hS.perm (.cons _ (.cons _ (.cons _ (.cons _ (.cons _ (.swap _ _ _))))))
    replace hS := hS.perm (.cons _ (.cons _ (.cons _ (.cons _ (.swap _ _ _)))))
    replace hS := hS.perm (.cons _ (.cons _ (.cons _ (.swap _ _ _))))
    replace hS : St _ [] [_, _, _, _, _, _, _, _, _, _, _, _, _, _, _, _] _ := hS
    refine wpl_efg hF hS (wanted_go 127 rfl rfl) rfl (ef_callx fn19 rfl (List.Perm.refl _) (by exact (jnumbers_ct _ _ _ _ _  hJ58))) ?_
    clear hF hS; rintro v78 _ _ a w ⟨_, _, rfl, rfl, ⟨rfl, qa79, qb80, qc81, qd82, rfl, hJ83⟩⟩ hF hS
    replace hS : St _ [] [_, _, _, _, _, _, _, _, _, _, _, _, _, _, _, _, _] _ := hS
    refine wpl_sq hF hS (sq_go 127 rfl rfl rfl (q_move rfl) <|
      sq_go 127 rfl rfl rfl (q_dt (q_call fn18 rfl (fun w hS => samei_ct _ _ _ _ w (own_slV (f := vi) (xs := (Jn.opn S).nums) (hS.own _ (List.mem_of_getElem? (i := 0) rfl)).1 ((by rw [he1]; exact hw1)) rfl (by first | decide | omega)) (own_slV (f := vi) (xs := J.nums) (hS.own _ (List.mem_of_getElem? (i := 16) rfl)).1 (hw1) rfl (by first | decide | omega))) (fun _ _ _ h => h)) (he1)) <|
      sq rfl (q_pick_t rfl rfl) <|
      sq rfl (q_move rfl) <|
      sq_go 133 rfl rfl rfl (q_move rfl) <|
      sq_end) ?_
    clear hF hS; intro a w hF hS
    replace hS := hS.perm (.swap _ _ _)
    replace hS := hS.perm (.cons _ (.swap _ _ _))
    replace hS := hS.perm (.cons _ (.cons _ (.swap _ _ _)))
    replace hS := hS.perm (.cons _ (.cons _ (.cons _ (.swap _ _ _))))
    replace hS : St _ [] [_, _, _, _, _, _, _, _, _, _, _, _, _, _, _, _, _] _ := hS
    refine wpl_efg hF hS (wanted_go 133 rfl rfl) rfl (ef_callx fn20 rfl (List.Perm.refl _) (by exact (jtexts_ct _ _ _ _ _  hJ83))) ?_
    clear hF hS; rintro v85 _ _ a w ⟨_, _, rfl, rfl, ⟨rfl, qa86, qb87, qc88, qd89, rfl, hJ90⟩⟩ hF hS
    replace hS : St _ [] [_, _, _, _, _, _, _, _, _, _, _, _, _, _, _, _, _, _] _ := hS
    refine wpl_sq hF hS (sq_go 133 rfl rfl rfl (q_move rfl) <|
      sq_go 133 rfl rfl rfl (q_dt (q_call fn10 rfl (fun w hS => samet_ct _ _ _ _ w (own_slV (f := vs) (xs := (Jn.opn S).tx) (hS.own _ (List.mem_of_getElem? (i := 0) rfl)).1 ((by rw [he2]; exact hw2)) rfl (by first | decide | omega)) (own_slV (f := vs) (xs := J.tx) (hS.own _ (List.mem_of_getElem? (i := 16) rfl)).1 (hw2) rfl (by first | decide | omega))) (fun _ _ _ h => h)) (he2)) <|
      sq rfl (q_pick_t rfl rfl) <|
      sq rfl (q_assign rfl) <|
      sq_end) ?_
    clear hF hS; intro a w hF hS
    refine wpList_nil ?_
    refine hK35 _ _ ?_
    clear hK35
    refine wp_ret ?_
    exact fn_ret (rs := [.tmp 6]) rfl hF hS (vs := [_]) ⟨rfl, trivial⟩ zQ zQ (rfl)

set_option maxRecDepth 4000 in
set_option maxHeartbeats 2000000 in
theorem jlaw4x_ct (n : Int) (hn : ¬ (1 ≤ n ∧ n ≤ 4096)) (v : Value) (os : List Stp) (v2 : Value) (wn : List UInt8) (w : World) (hb1 : Sl encSt (ph w) v os) (hb2 : Sl encB (ph w) v2 wn) {fz1 : Nat × Nat} {bt1 : TypeId} (hg1 : w.heap[2]? = some (.cells (Sha.kc.map vw).toArray bt1 fz1)) : Ct Tryd.prog 4 [vi n, v, v2] w (fun r _ _ => r = .bool true) := by
 refine fn_enter Tryd.func4 rfl Tryd.ntmps4 (Nat.le_of_ble_eq_true rfl) fun a hF hS => ?_
 have hol := hb1.1
 have hwl := hb2.1
 refine wp_seq_k ?_; intro K1 hK1
 refine reg hF hS (sq rfl (q_assign rfl) <|
   sq_end) ?_
 clear hF hS; intro a w hF hS
 refine hK1 _ _ ?_
 clear hK1
 refine wp_seq_k ?_; intro K2 hK2
 refine wp_seq_k ?_; intro K3 hK3
 refine regl ?_
 refine wpl_sq hF hS (sq rfl (q_move rfl) <|
   sq rfl (q_gti rfl rfl) <|
   sq rfl (q_move rfl) <|
   sq_end) ?_
 clear hF hS; intro a w hF hS
 refine wpl_or 2 24 3 hF hS rfl rfl rfl rfl rfl (fun hg => have hg := (by first | exact of_decide_eq_false hg | exact hg); sq_go 24 rfl rfl rfl (q_move rfl) <|
   sq_go 24 rfl rfl rfl (q_len_sl ty35 hb1 rfl) <|
   sq_go 24 rfl rfl rfl (q_gti rfl rfl) <|
   sq_end) rfl rfl ?_
 clear hF hS; intro a w hF hS
 refine wpl_sq hF hS (sq rfl (q_move rfl) <|
   sq_end) ?_
 clear hF hS; intro a w hF hS
 refine wpl_or 7 29 3 hF hS rfl rfl rfl rfl rfl (fun hg => have hg := hg; sq_go 29 rfl rfl rfl (q_move rfl) <|
   sq_go 29 rfl rfl rfl (q_len_sl ty36 hb2 rfl) <|
   sq_go 29 rfl rfl rfl (q_gti rfl rfl) <|
   sq_end) rfl rfl ?_
 clear hF hS; intro a w hF hS
 refine wpList_nil ?_
 refine hK3 _ _ ?_
 clear hK3
 refine wp_if hF rfl (fun hc1 => ?_) (fun hc1 => ?_)
 ·(try simp only [Bool.or_eq_true, Bool.and_eq_true, Bool.or_eq_false_iff, Bool.and_eq_false_iff, decide_eq_true_eq, decide_eq_false_iff_not, Bool.not_eq_true', Bool.not_eq_false'] at hc1)
  refine wp_seq_k ?_; intro K4 hK4
  refine reg hF hS (sq rfl (q_call fn5 rfl (fun w hS => sanity40_ct w (hS.ext _ _ hg1)) (fun _ _ _ h => h)) <|
    sq rfl (q_assign rfl) <|
    sq_end) ?_
  clear hF hS; intro a w hF hS
  refine hK4 _ _ ?_
  clear hK4
  refine wp_ret ?_
  exact fn_ret (rs := [.tmp 6]) rfl hF hS (vs := [_]) ⟨rfl, trivial⟩ zQ zQ (rfl)
 ·(try simp only [Bool.or_eq_true, Bool.and_eq_true, Bool.or_eq_false_iff, Bool.and_eq_false_iff, decide_eq_true_eq, decide_eq_false_iff_not, Bool.not_eq_true', Bool.not_eq_false'] at hc1)
  refine wp_skip ?_
  refine hK2 _ _ ?_
  clear hK2
  refine wp_seq_k ?_; intro K5 hK5
  refine reg hF hS (sq rfl (q_move rfl) <|
    sq rfl (q_call fn13 rfl (fun w hS => dnewx_ct _ (by omega) w ) (fun _ _ _ h => h)) <|
    sq rfl (q_move rfl) <|
    sq rfl (q_extract rfl rfl) <|
    sq rfl (q_extract rfl rfl) <|
    sq rfl (q_assign rfl) <|
    sq rfl (q_assign rfl) <|
    sq_end) ?_
  clear hF hS; intro a w hF hS
  refine hK5 _ _ ?_
  clear hK5
  refine wp_seq_k ?_; intro K6 hK6
  refine wp_seq_k ?_; intro K7 hK7
  refine reg hF hS (sq rfl (q_move rfl) <|
    sq rfl (q_nt (q_nei rfl rfl) (by simp)) <|
    sq_end) ?_
  clear hF hS; intro a w hF hS
  refine hK7 _ _ ?_
  clear hK7
  refine wp_if hF rfl (fun _ => ?_) (fun h => absurd h (by simp))
  refine wp_seq_k ?_; intro K8 hK8
  refine reg hF hS (sq rfl (q_call fn5 rfl (fun w hS => sanity40_ct w (hS.ext _ _ hg1)) (fun _ _ _ h => h)) <|
    sq rfl (q_move rfl) <|
    sq_go 43 rfl rfl rfl (q_move rfl) <|
    sq_go 43 rfl rfl rfl (q_dt (q_lti rfl rfl) (by omega)) <|
    sq rfl (q_pick_t rfl rfl) <|
    sq rfl (q_assign rfl) <|
    sq_end) ?_
  clear hF hS; intro a w hF hS
  refine hK8 _ _ ?_
  clear hK8
  refine wp_ret ?_
  exact fn_ret (rs := [.tmp 6]) rfl hF hS (vs := [_]) ⟨rfl, trivial⟩ zQ zQ (rfl)

theorem jlaw4_all (n : Int) (v : Value) (os : List Stp) (v2 : Value) (wn : List UInt8) (w : World) (hb1 : Sl encSt (ph w) v os) (hb2 : Sl encB (ph w) v2 wn) {fz1 : Nat × Nat} {bt1 : TypeId} (hg1 : w.heap[2]? = some (.cells (Sha.kc.map vw).toArray bt1 fz1)) : Ct Tryd.prog 4 [vi n, v, v2] w (fun r _ _ => r = .bool true) := by
 rcases Decidable.em (1 ≤ n ∧ n ≤ 4096) with h | h
 ·obtain ⟨m, rfl⟩ : ∃ m : Nat, n = (m : Int) := ⟨n.toNat, by omega⟩
  exact jlaw4_ct m (by omega) v os v2 wn w hb1 hb2 hg1
 ·exact jlaw4x_ct n h v os v2 wn w hb1 hb2 hg1
end Go.Proofs.YtibbhobfdbfkkaaDoor
