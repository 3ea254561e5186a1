/- A text of a proof over this seat: walks over the program's functions and the plain laws that they need. -/
import Derived.Test.YtibbhobfdbfkkaaGreatDoorJj18
import Derived.Test.YtibbhobfdbfkkaaGreatDoorJnB
import Derived.Test.YtibbhobfdbfkkaaGreatDoorFwB
set_option linter.all false
namespace Go.Proofs.YtibbhobfdbfkkaaGreatDoor
open Go.Fw
theorem fn15 : FnOk Tryz.prog 15 := ⟨_, Tryz.func15, rfl, by kernel_rfl⟩
theorem fn18 : FnOk Tryz.prog 18 := ⟨_, Tryz.func18, rfl, by kernel_rfl⟩

attribute [local irreducible] Sha.sum Jn.good Jn.hd Jn.lb Jn.cnt Jn.unp Jn.pack Jn.opn Jn.app

set_option maxRecDepth 4000 in
set_option maxHeartbeats 2000000 in
theorem jlaw5_ct (n : Nat) (hn : 1 ≤ n ∧ n ≤ 4096) (v : Value) (os : List Stp) (xk xi xb xn : Int) (xf : UInt8) (xpv : Value) (h1p : xpv.oneCell' = true) (tr : UInt8) (v4 : Value) (ps : List Int) (w : World) (hb1 : Sl encSt (ph w) v os) (hb4 : Sl Go.Fw.encI (ph w) v4 ps) {fz0 fz1 : Nat × Nat} {bt0 bt1 : TypeId} (hg0 : w.heap[0]? = some (.cells (Sha.kc.map vw).toArray bt0 fz0)) (hg1 : w.heap[2]? = some (.cells (Sha.kc.map vw).toArray bt1 fz1)) : Ct Tryz.prog 5 [vi (n : Int), v, .agg [vi xk, vi xi, vi xb, vi xn, vb xf, xpv].toArray, vb tr, v4] w (fun r _ _ => r = .bool true) := by
 refine fn_enter Tryz.func5 rfl Tryz.ntmps5 (Nat.le_of_ble_eq_true rfl) fun a hF hS => ?_
 have hol := hb1.1
 have hpl := hb4.1
 have htr := tr.toNat_lt
 refine wp_seq_k ?_; intro K1 hK1
 refine regl ?_
 refine wpl_ef hF hS rfl (ef_boxA (cs := [vi xk, vi xi, vi xb, vi xn, vb xf, xpv]) rfl) ?_
 clear hF hS; rintro _ _ _ a w ⟨b1, rfl, rfl, rfl⟩ hF hS
 refine wpl_sq hF hS (sq rfl (q_assign rfl) <|
   sq_end) ?_
 clear hF hS; intro a w hF hS
 refine wpList_nil ?_
 refine hK1 _ _ ?_
 clear hK1
 refine wp_seq_k ?_; intro K2 hK2
 refine wp_seq_k ?_; intro K3 hK3
 refine regl ?_
 refine wpl_sq hF hS (sq rfl (q_move rfl) <|
   sq rfl (q_gti rfl rfl) <|
   sq rfl (q_move rfl) <|
   sq_end) ?_
 clear hF hS; intro a w hF hS
 refine wpl_or 2 24 3 hF hS rfl rfl rfl rfl rfl (fun hg => have hg := (by first | exact of_decide_eq_false hg | exact hg); sq_go 24 rfl rfl rfl (q_move rfl) <|
   sq_go 24 rfl rfl rfl (q_len_sl ty40 hb1 rfl) <|
   sq_go 24 rfl rfl rfl (q_gti rfl rfl) <|
   sq_end) rfl rfl ?_
 clear hF hS; intro a w hF hS
 refine wpl_sq hF hS (sq rfl (q_move rfl) <|
   sq_end) ?_
 clear hF hS; intro a w hF hS
 refine wpl_or 7 29 3 hF hS rfl rfl rfl rfl rfl (fun hg => have hg := hg; sq_go 29 rfl rfl rfl (q_move rfl) <|
   sq_go 29 rfl rfl rfl (q_len_sl ty51 hb4 rfl) <|
   sq_go 29 rfl rfl rfl (q_gti rfl rfl) <|
   sq_end) rfl rfl ?_
 clear hF hS; intro a w hF hS
 refine wpList_nil ?_
 refine hK3 _ _ ?_
 clear hK3
 refine wp_if hF rfl (fun hc1 => ?_) (fun hc1 => ?_)
 ·(try simp only [Bool.or_eq_true, Bool.and_eq_true, Bool.or_eq_false_iff, Bool.and_eq_false_iff, decide_eq_true_eq, decide_eq_false_iff_not, Bool.not_eq_true', Bool.not_eq_false'] at hc1)
  refine wp_seq_k ?_; intro K4 hK4
  refine reg hF hS (sq rfl (q_call fn7 rfl (fun w hS => sanity40_ct w (hS.ext _ _ hg1)) (fun _ _ _ h => h)) <|
    sq rfl (q_assign rfl) <|
    sq_end) ?_
  clear hF hS; intro a w hF hS
  refine hK4 _ _ ?_
  clear hK4
  refine wp_ret ?_
  exact fn_ret (rs := [.tmp 10]) rfl hF hS (vs := [_]) ⟨rfl, trivial⟩ zQ zQ (rfl)
 ·(try simp only [Bool.or_eq_true, Bool.and_eq_true, Bool.or_eq_false_iff, Bool.and_eq_false_iff, decide_eq_true_eq, decide_eq_false_iff_not, Bool.not_eq_true', Bool.not_eq_false'] at hc1)
  refine wp_skip ?_
  refine hK2 _ _ ?_
  clear hK2
  refine wp_seq_k ?_; intro K5 hK5
  refine regl ?_
  refine wpl_sq hF hS (sq rfl (q_move rfl) <|
    sq rfl (q_move rfl) <|
    sq_end) ?_
  clear hF hS; intro a w hF hS
  refine wpl_ef hF hS rfl (ef_call fn15 rfl (fun w hS => filled_ct _ (by omega) _ _ w (Sl.mono (hS.le zin0) hb1) (hS.ext _ _ hg1))) ?_
  clear hF hS; rintro _ _ _ a w ⟨_, _, rfl, rfl, ⟨rfl, hh, qa, qb, qc, qd, tv, S0, J0, rfl, rfl, hD0, hFi, hsl, htl⟩⟩ hF hS
  replace hS : St _ [] [_, _, _, _, _, _] _ := hS
  refine wpl_sq hF hS (sq rfl (q_move rfl) <|
    sq rfl (q_extract rfl rfl) <|
    sq rfl (q_extract rfl rfl) <|
    sq rfl (q_extract rfl rfl) <|
    sq rfl (q_assign rfl) <|
    sq rfl (q_assign rfl) <|
    sq rfl (q_assign rfl) <|
    sq_end) ?_
  clear hF hS; intro a w hF hS
  refine wpList_nil ?_
  have hr2 := hFi.g.wf.nl
  have hr3 := hFi.g.wf.tl
  have hr4 := hFi.g.wf.e2
  refine hK5 _ _ ?_
  clear hK5
  refine wp_seq_k ?_; intro K6 hK6
  refine wp_seq_k ?_; intro K7 hK7
  refine reg hF hS (sq rfl (q_move rfl) <|
    sq rfl (q_not rfl) <|
    sq_end) ?_
  clear hF hS; intro a w hF hS
  refine hK7 _ _ ?_
  clear hK7
  refine wp_if hF rfl (fun h => absurd h (by simp)) (fun _ => ?_)
  refine wp_skip ?_
  refine hK6 _ _ ?_
  clear hK6
  refine wp_seq_k ?_; intro K8 hK8
  refine regl ?_
  refine wpl_sq hF hS (sq rfl (q_move rfl) <|
    sq_end) ?_
  clear hF hS; intro a w hF hS
  refine wpl_ef hF hS rfl (ef_callx fn12 rfl (List.Perm.refl _) (by exact (open_ct _ _ hFi.g.still.off _ _ hg1 hD0))) ?_
  clear hF hS; rintro _ _ _ a w ⟨_, _, rfl, rfl, ⟨rfl, jb9, qa10, qb11, qc12, qd13, ua14, ub15, uc16, ud17, rfl, rfl, hJ18, hD19⟩⟩ hF hS
  replace hS : St _ [] [_, _, _, _, _, _, _, _, _, _] _ := hS
  refine wpl_sq hF hS (sq rfl (q_move rfl) <|
    sq rfl (q_extract rfl rfl) <|
    sq rfl (q_extract rfl rfl) <|
    sq rfl (q_assign rfl) <|
    sq rfl (q_assign rfl) <|
    sq_end) ?_
  clear hF hS; intro a w hF hS
  refine wpList_nil ?_
  rw [Jn.fil_opn hFi] at hJ18
  refine hK8 _ _ ?_
  clear hK8
  refine wp_seq_k ?_; intro K9 hK9
  refine wp_seq_k ?_; intro K10 hK10
  refine regl ?_
  refine wpl_sq hF hS (sq rfl (q_move rfl) <|
    sq rfl (q_nf (q_nei rfl rfl) (by simp)) <|
    sq rfl (q_move rfl) <|
    sq_go 56 rfl rfl rfl (q_move rfl) <|
    sq_end) ?_
  clear hF hS; intro a w hF hS
  refine wpl_efg hF hS (wanted_go 56 rfl rfl) rfl (ef_callx fn21 rfl (List.Perm.refl _) (by exact (jtexts_ct _ _ _ _ _  hJ18))) ?_
  clear hF hS; rintro v24 _ _ a w ⟨_, _, rfl, rfl, ⟨rfl, qa25, qb26, qc27, qd28, rfl, hJ29⟩⟩ hF hS
  replace hS : St _ [] [_, _, _, _, _, _, _, _, _, _, _] _ := hS
  refine wpl_sq hF hS (sq_go 56 rfl rfl rfl (q_move rfl) <|
    sq_go 56 rfl rfl rfl (q_call fn20 rfl (fun w hS => samet_t _ _ _ w (own_slV (f := vs) (xs := J0.tx) (hS.own _ (List.mem_of_getElem? (i := 0) rfl)).1 (hFi.g.wf.tr') rfl (by first | decide | omega)) (own_slV (f := vs) (xs := J0.tx) (hS.own _ (List.mem_of_getElem? (i := 9) rfl)).1 (hFi.g.wf.tr') rfl (by first | decide | omega))) (fun _ _ _ h => h)) <|
    sq_go 56 rfl rfl rfl (q_not rfl) <|
    sq rfl (q_pick_f rfl rfl) <|
    sq rfl (q_move rfl) <|
    sq_go 63 rfl rfl rfl (q_move rfl) <|
    sq_end) ?_
  clear hF hS; intro a w hF hS
  replace hS := hS.perm (.swap _ _ _)
  replace hS := hS.perm (.cons _ (.swap _ _ _))
  replace hS := hS.perm (.cons _ (.cons _ (.swap _ _ _)))
  replace hS := hS.perm (.cons _ (.cons _ (.cons _ (.swap _ _ _))))
  replace hS : St _ [] [_, _, _, _, _, _, _, _, _, _, _] _ := hS
  refine wpl_efg hF hS (wanted_go 63 rfl rfl) rfl (ef_callx fn24 rfl (List.Perm.refl _) (by exact (jdamaged_ct _ _ _ _ _  hJ29))) ?_
  clear hF hS; rintro v31 _ _ a w ⟨_, _, rfl, rfl, ⟨rfl, qa32, qb33, qc34, qd35, rfl, hJ36⟩⟩ hF hS
  replace hS : St _ [] [_, _, _, _, _, _, _, _, _, _, _, _] _ := hS
  refine wpl_sq hF hS (sq_go 63 rfl rfl rfl (q_len_row ty51 0 rfl rfl) <|
    sq_go 63 rfl rfl rfl (q_df (q_gti rfl rfl) (by rw [Jn.fil_dm hFi]; simp)) <|
    sq rfl (q_pick_f rfl rfl) <|
    sq_end) ?_
  clear hF hS; intro a w hF hS
  refine wpList_nil ?_
  refine hK10 _ _ ?_
  clear hK10
  refine wp_if hF rfl (fun h => absurd h (by simp)) (fun _ => ?_)
  refine wp_skip ?_
  refine hK9 _ _ ?_
  clear hK9
  refine wp_seq_k ?_; intro K11 hK11
  refine regl ?_
  refine wpl_sq hF hS (sq rfl (q_move rfl) <|
    sq rfl (q_move rfl) <|
    sq rfl (q_cv_bi ty5 ty3 rfl) <|
    sq_end) ?_
  clear hF hS; intro a w hF hS
  replace hS := hS.perm (.cons _ (.cons _ (.cons _ (.cons _ (.cons _ (.swap _ _ _))))))
  replace hS := hS.perm (.cons _ (.cons _ (.cons _ (.cons _ (.swap _ _ _)))))
  replace hS := hS.perm (.cons _ (.cons _ (.cons _ (.swap _ _ _))))
  replace hS := hS.perm (.cons _ (.cons _ (.swap _ _ _)))
  replace hS := hS.perm (.cons _ (.swap _ _ _))
  replace hS := hS.perm (.swap _ _ _)
  replace hS := hS.perm (.cons _ (.cons _ (.cons _ (.cons _ (.cons _ (.cons _ (.swap _ _ _)))))))
  replace hS := hS.perm (.cons _ (.cons _ (.cons _ (.cons _ (.cons _ (.swap _ _ _))))))
  replace hS := hS.perm (.cons _ (.cons _ (.cons _ (.cons _ (.swap _ _ _)))))
  replace hS := hS.perm (.cons _ (.cons _ (.cons _ (.swap _ _ _))))
  replace hS := hS.perm (.cons _ (.cons _ (.swap _ _ _)))
  replace hS := hS.perm (.cons _ (.swap _ _ _))
  replace hS := hS.perm (.cons _ (.cons _ (.cons _ (.cons _ (.cons _ (.cons _ (.cons _ (.swap _ _ _))))))))
  replace hS := hS.perm (.cons _ (.cons _ (.cons _ (.cons _ (.cons _ (.cons _ (.swap _ _ _)))))))
  replace hS := hS.perm (.cons _ (.cons _ (.cons _ (.cons _ (.cons _ (.swap _ _ _))))))
  replace hS := hS.perm (.cons _ (.cons _ (.cons _ (.cons _ (.swap _ _ _)))))
  replace hS := hS.perm (.cons _ (.cons _ (.cons _ (.swap _ _ _))))
  replace hS := hS.perm (.cons _ (.cons _ (.swap _ _ _)))
  replace hS := hS.perm (.cons _ (.cons _ (.cons _ (.cons _ (.cons _ (.cons _ (.cons _ (.cons _ (.swap _ _ _)))))))))
  replace hS := hS.perm (.cons _ (.cons _ (.cons _ (.cons _ (.cons _ (.cons _ (.cons _ (.swap _ _ _))))))))
  replace hS := hS.perm (.cons _ (.cons _ (.cons _ (.cons _ (.cons _ (.cons _ (.swap _ _ _)))))))
  replace hS := hS.perm (.cons _ (.cons _ (.cons _ (.cons _ (.cons _ (.swap _ _ _))))))
  replace hS := hS.perm (.cons _ (.cons _ (.cons _ (.cons _ (.swap _ _ _)))))
  replace hS := hS.perm (.cons _ (.cons _ (.cons _ (.swap _ _ _))))
  replace hS : St _ [] [_, _, _, _, _, _, _, _, _, _, _, _] _ := hS
  refine wpl_ef hF hS rfl (ef_callx fn25 rfl (List.Perm.refl _) (by exact (dtrip_ct _ _ _ (by omega) _ _  hD19))) ?_
  clear hF hS; rintro _ _ _ a w ⟨_, _, rfl, rfl, ⟨rfl, rfl, qa39, qb40, qc41, qd42, rfl, hD43⟩⟩ hF hS
  replace hS : St _ [] [_, _, _, _, _, _, _, _, _, _, _, _] _ := hS
  refine wpList_nil ?_
  refine hK11 _ _ ?_
  clear hK11
  refine wp_seq_k ?_; intro K12 hK12
  refine regl ?_
  refine wpl_sq hF hS (sq rfl (q_move rfl) <|
    sq rfl (q_ld_blkW ty56 11 rfl rfl bQ rfl) <|
    sq rfl (q_call fn27 rfl (fun w hS => stext_ct _ _ _ _ _ _ (by first | assumption | rfl) w ) (fun _ _ _ h => h)) <|
    sq_end) ?_
  clear hF hS; intro a w hF hS
  replace hS := hS.perm (.cons _ (.cons _ (.cons _ (.cons _ (.swap _ _ _)))))
  replace hS := hS.perm (.cons _ (.cons _ (.cons _ (.swap _ _ _))))
  replace hS := hS.perm (.cons _ (.cons _ (.swap _ _ _)))
  replace hS := hS.perm (.cons _ (.swap _ _ _))
  replace hS := hS.perm (.swap _ _ _)
  replace hS := hS.perm (.cons _ (.cons _ (.cons _ (.cons _ (.cons _ (.swap _ _ _))))))
  replace hS := hS.perm (.cons _ (.cons _ (.cons _ (.cons _ (.swap _ _ _)))))
  replace hS := hS.perm (.cons _ (.cons _ (.cons _ (.swap _ _ _))))
  replace hS := hS.perm (.cons _ (.cons _ (.swap _ _ _)))
  replace hS := hS.perm (.cons _ (.swap _ _ _))
  replace hS := hS.perm (.cons _ (.cons _ (.cons _ (.cons _ (.cons _ (.cons _ (.swap _ _ _)))))))
  replace hS := hS.perm (.cons _ (.cons _ (.cons _ (.cons _ (.cons _ (.swap _ _ _))))))
  replace hS := hS.perm (.cons _ (.cons _ (.cons _ (.cons _ (.swap _ _ _)))))
  replace hS := hS.perm (.cons _ (.cons _ (.cons _ (.swap _ _ _))))
  replace hS := hS.perm (.cons _ (.cons _ (.swap _ _ _)))
  replace hS := hS.perm (.cons _ (.cons _ (.cons _ (.cons _ (.cons _ (.cons _ (.cons _ (.swap _ _ _))))))))
  replace hS := hS.perm (.cons _ (.cons _ (.cons _ (.cons _ (.cons _ (.cons _ (.swap _ _ _)))))))
  replace hS := hS.perm (.cons _ (.cons _ (.cons _ (.cons _ (.cons _ (.swap _ _ _))))))
  replace hS := hS.perm (.cons _ (.cons _ (.cons _ (.cons _ (.swap _ _ _)))))
  replace hS := hS.perm (.cons _ (.cons _ (.cons _ (.swap _ _ _))))
  replace hS : St _ [] [_, _, _, _, _, _, _, _, _, _, _, _] _ := hS
  refine wpl_ef hF hS rfl (ef_callx fn26 rfl (List.Perm.refl _) (by exact (jappend_ct _ _ _ _ _ _ _ hg1 hJ36 hD43))) ?_
  clear hF hS; rintro _ _ _ a w ⟨_, _, rfl, rfl, ⟨rfl, rfl, qa45, qb46, qc47, qd48, ua49, ub50, uc51, ud52, rfl, hJ53, hD54⟩⟩ hF hS
  replace hS : St _ [] [_, _, _, _, _, _, _, _, _, _, _, _] _ := hS
  refine wpl_sq hF hS (sq rfl (q_move rfl) <|
    sq rfl (q_extract rfl rfl) <|
    sq rfl (q_extract rfl rfl) <|
    sq rfl (q_assign rfl) <|
    sq rfl (q_assign rfl) <|
    sq_end) ?_
  clear hF hS; intro a w hF hS
  refine wpList_nil ?_
  refine hK12 _ _ ?_
  clear hK12
  refine wp_seq_k ?_; intro K13 hK13
  refine regl ?_
  refine wpl_sq hF hS (sq rfl (q_move rfl) <|
    sq rfl (q_move rfl) <|
    sq_end) ?_
  clear hF hS; intro a w hF hS
  replace hS := hS.perm (.cons _ (.cons _ (.cons _ (.swap _ _ _))))
  replace hS := hS.perm (.cons _ (.cons _ (.swap _ _ _)))
  replace hS := hS.perm (.cons _ (.swap _ _ _))
  replace hS := hS.perm (.swap _ _ _)
  replace hS := hS.perm (.cons _ (.cons _ (.cons _ (.cons _ (.swap _ _ _)))))
  replace hS := hS.perm (.cons _ (.cons _ (.cons _ (.swap _ _ _))))
  replace hS := hS.perm (.cons _ (.cons _ (.swap _ _ _)))
  replace hS := hS.perm (.cons _ (.swap _ _ _))
  replace hS := hS.perm (.cons _ (.cons _ (.cons _ (.cons _ (.cons _ (.swap _ _ _))))))
  replace hS := hS.perm (.cons _ (.cons _ (.cons _ (.cons _ (.swap _ _ _)))))
  replace hS := hS.perm (.cons _ (.cons _ (.cons _ (.swap _ _ _))))
  replace hS := hS.perm (.cons _ (.cons _ (.swap _ _ _)))
  replace hS := hS.perm (.cons _ (.cons _ (.cons _ (.cons _ (.cons _ (.cons _ (.swap _ _ _)))))))
  replace hS := hS.perm (.cons _ (.cons _ (.cons _ (.cons _ (.cons _ (.swap _ _ _))))))
  replace hS := hS.perm (.cons _ (.cons _ (.cons _ (.cons _ (.swap _ _ _)))))
  replace hS := hS.perm (.cons _ (.cons _ (.cons _ (.swap _ _ _))))
  replace hS : St _ [] [_, _, _, _, _, _, _, _, _, _, _, _] _ := hS
  refine wpl_ef hF hS rfl (ef_callx fn28 rfl (List.Perm.refl _) (by exact (dmount_ct _ _ _ _ _ _ _ hb4 zin0 hD54))) ?_
  clear hF hS; rintro _ _ _ a w ⟨_, _, rfl, rfl, ⟨rfl, rfl, qa56, qb57, qc58, qd59, rfl, hD60⟩⟩ hF hS
  replace hS : St _ [] [_, _, _, _, _, _, _, _, _, _, _, _] _ := hS
  refine wpList_nil ?_
  have hOM := Dk.DOk.ok hD60
  have hil := Dk.image_len (Dk.mount (Jn.app J0 (Dk.trip S0 (tr.toNat : Int)) (Jn.txt xn xf)).2.1 ps)
  have hMh := hOM.hi
  have hsvl : J0.tx.length ≤ 12 := by omega
  have htxl := Jn.txt_len xn xf
  have hme : ∀ x ∈ (J0.tx ++ [(Jn.txt xn xf)]), x.length ≤ 140737488355328 := fun x hx => by
   rcases List.mem_append.1 hx with h9 | h9
   ·exact hFi.g.wf.tr' x h9
   ·have h8 : x = (Jn.txt xn xf) := by simpa using h9
    rw [h8]; omega
  have hml : (J0.tx ++ [(Jn.txt xn xf)]).length = J0.tx.length + 1 := by simp
  refine hK13 _ _ ?_
  clear hK13
  refine wp_seq_k ?_; intro K14 hK14
  refine wp_seq_k ?_; intro K15 hK15
  revert hS; revert hF; apply regJ (J := J9 (α0 := Res) (α1 := Res) (α2 := Res) (α3 := Res) (α4 := Value) (α5 := Value) (α6 := Value) (α7 := Value) (α8 := Value) 130 _ _ _ _ _) #[false, false, false, false, false, false, false, false, false, false, false] 11 mixed rfl rfl
  ·intro w hF hS
   refine goW_take 0 _ rfl kQ rfl hF (hS.keep sQ zQ) (q_move rfl) ?_
   clear hF; intro a hF
   refine goW_take 3 _ rfl kQ rfl hF (hS.keep sQ zQ) (q_move rfl) ?_
   clear hF; intro a hF
   refine goW_take 5 _ rfl kQ rfl hF (hS.keep sQ (sQ.n.n.n.n.n.n.n.n.n.n.n)) (q_ld_blkW ty56 0 rfl rfl bQ rfl) ?_
   clear hF; intro a hF
   refine goW_fork [1, 2] kQ rfl ⟨?_, ?_, trivial⟩
   ·refine stepW_ef _ rfl rfl hF hS rfl (ef_callx fn19 rfl (List.Perm.refl _) (by exact (dimage_ct _ _ _ _  hD60))) ?_
    clear hF hS; rintro v_12_1 _ _ a w ⟨_, _, rfl, rfl, ⟨rfl, qa_12_1, qb_12_1, qc_12_1, qd_12_1, rfl, hD_12_1⟩⟩ hF hS
    refine ⟨⟨.inr (hS.k1 (sQ.n.n.n.n.n.n.n.n.n.n.n.n)), .inr hS.k0, iQ, trivial⟩, ?_⟩
    refine gQ 2 rfl rfl hF hS rfl (ef_bslice0 ty22 ty9) ?_
    clear hF hS; rintro v_12_2 _ _ a w ⟨rfl, rfl⟩ hF hS
    refine ⟨⟨.inr (hS.k1 (sQ.n.n.n.n.n.n.n.n.n.n.n.n.n)), .inr hS.k0, iQ, trivial⟩, ?_⟩
    refine gQ 4 rfl rfl hF hS rfl (ef_append ty22 ty9 0 rfl rfl rfl (src_row ty22 (k := 12) rfl oQ) bQ rfl (by decide)) ?_
    clear hF hS; rintro v_12_4 _ _ a w ⟨rfl, rfl⟩ hF hS
    refine ⟨⟨.inr (hS.k1 (sQ.n.n.n.n.n.n.n.n.n.n.n.n.n)), iQ, iQ, trivial⟩, ?_⟩
    refine gQ 6 rfl rfl hF hS rfl (ef_qt (q_call fn27 rfl (fun w hS => stext_ct _ _ _ _ _ _ (by first | assumption | rfl) w ) (fun _ _ _ h => h))) ?_
    clear hF hS; rintro _ _ _ a w ⟨rfl, rfl, rfl⟩ hF hS
    refine ⟨⟨iQ, iQ, iQ, trivial⟩, ?_⟩
    refine gQ 7 rfl rfl hF hS rfl (ef_bsliceA ty22 ty9 rfl rfl oQ (by decide) rfl rfl) ?_
    clear hF hS; rintro v_12_7 _ _ a w ⟨rfl, rfl⟩ hF hS
    refine ⟨⟨iQ, iQ, iQ, trivial⟩, ?_⟩
    refine gQ 8 rfl rfl hF hS rfl (ef_append ty22 ty9 1 rfl rfl rfl (src_row ty22 (k := 0) rfl oQ) bQ rfl (by decide)) ?_
    clear hF hS; rintro v_12_8 _ _ a w ⟨rfl, rfl⟩ hF hS
    replace hS : St _ [] [_, _, _, _, _, _, _, _, _, _, _, _, _, _, _] _ := (hS)
    rw [List.nil_append, show J0.tx.map vs ++ [vs (Jn.txt xn xf)] = (J0.tx ++ [(Jn.txt xn xf)]).map vs from by rw [List.map_append]; rfl, show 0 + J0.tx.length + 1 = (J0.tx ++ [(Jn.txt xn xf)]).length from by simp] at hS
    replace hS : St _ [] [_, _, _, _, _, _, _, _, _, _, _, _, _, _, _] _ := hS
    refine ⟨⟨iQ, iQ, iQ, trivial⟩, ?_⟩
    refine gQ 9 rfl rfl hF hS rfl (ef_qt (q_call fn18 rfl (fun w hS => genuine_ct _ _ _ _ (by omega) (by omega) w (own_slV (f := vs) (xs := (Dk.image (Dk.mount (Jn.app J0 (Dk.trip S0 (tr.toNat : Int)) (Jn.txt xn xf)).2.1 ps))) (hS.own _ (List.mem_of_getElem? (i := 2) rfl)).1 (Dk.image_64 hOM) rfl (by first | decide | omega)) (own_slV (f := vs) (xs := (J0.tx ++ [(Jn.txt xn xf)])) (hS.own _ (List.mem_of_getElem? (i := 1) rfl)).1 (hme) rfl (by first | decide | omega)) (hS.ext _ _ hg0)) (fun _ _ _ h => h))) ?_
    clear hF hS; rintro _ _ _ a w ⟨rfl, rfl, rfl⟩ hF hS
    refine ⟨⟨iQ, iQ, iQ, trivial⟩, ?_⟩
    refine goW_take 10 _ rfl kQ rfl hF (hS.keep sQ zQ) (q_not rfl) ?_
    clear hF; intro a hF
    exact goW_done kQ (j9_mk qa_12_1 qb_12_1 qc_12_1 qd_12_1 v_12_1 v_12_2 v_12_4 v_12_7 v_12_8 ((And.intro hD_12_1 trivial)) (hF.sub (L' := [(7, _), (11, _), (12, _), (17, _), (93, _)]) ⟨rfl, rfl, rfl, rfl, rfl, trivial⟩) hS)
   ·refine stepW_ef _ rfl rfl hF hS rfl (ef_bslice0 ty22 ty9) ?_
    clear hF hS; rintro v_12_2 _ _ a w ⟨rfl, rfl⟩ hF hS
    refine ⟨⟨.inr (hS.k1 (sQ.n.n.n.n.n.n.n.n.n.n.n.n)), .inr hS.k0, .inr hS.k0, trivial⟩, ?_⟩
    refine goW_fork [1] kQ rfl ⟨?_, trivial⟩
    replace hS := hS.perm (.swap _ _ _)
    replace hS := hS.perm (.cons _ (.swap _ _ _))
    replace hS := hS.perm (.cons _ (.cons _ (.swap _ _ _)))
    replace hS := hS.perm (.cons _ (.cons _ (.cons _ (.swap _ _ _))))
    replace hS : St _ [] [_, _, _, _, _, _, _, _, _, _, _, _, _] _ := hS
    refine stepW_ef _ rfl rfl hF hS rfl (ef_callx fn19 rfl (List.Perm.refl _) (by exact (dimage_ct _ _ _ _  hD60))) ?_
    clear hF hS; rintro v_12_1 _ _ a w ⟨_, _, rfl, rfl, ⟨rfl, qa_12_1, qb_12_1, qc_12_1, qd_12_1, rfl, hD_12_1⟩⟩ hF hS
    refine ⟨⟨.inr (hS.k1 (sQ.n.n.n.n.n.n.n.n.n.n.n.n.n)), .inr hS.k0, iQ, trivial⟩, ?_⟩
    refine gQ 4 rfl rfl hF hS rfl (ef_append ty22 ty9 5 rfl rfl rfl (src_row ty22 (k := 12) rfl oQ) bQ rfl (by decide)) ?_
    clear hF hS; rintro v_12_4 _ _ a w ⟨rfl, rfl⟩ hF hS
    refine ⟨⟨.inr (hS.k1 (sQ.n.n.n.n.n.n.n.n.n.n.n.n.n)), iQ, iQ, trivial⟩, ?_⟩
    refine gQ 6 rfl rfl hF hS rfl (ef_qt (q_call fn27 rfl (fun w hS => stext_ct _ _ _ _ _ _ (by first | assumption | rfl) w ) (fun _ _ _ h => h))) ?_
    clear hF hS; rintro _ _ _ a w ⟨rfl, rfl, rfl⟩ hF hS
    refine ⟨⟨iQ, iQ, iQ, trivial⟩, ?_⟩
    refine gQ 7 rfl rfl hF hS rfl (ef_bsliceA ty22 ty9 rfl rfl oQ (by decide) rfl rfl) ?_
    clear hF hS; rintro v_12_7 _ _ a w ⟨rfl, rfl⟩ hF hS
    refine ⟨⟨iQ, iQ, iQ, trivial⟩, ?_⟩
    refine gQ 8 rfl rfl hF hS rfl (ef_append ty22 ty9 6 rfl rfl rfl (src_row ty22 (k := 0) rfl oQ) bQ rfl (by decide)) ?_
    clear hF hS; rintro v_12_8 _ _ a w ⟨rfl, rfl⟩ hF hS
    replace hS : St _ [] [_, _, _, _, _, _, _, _, _, _, _, _, _, _, _] _ := (hS)
    rw [List.nil_append, show J0.tx.map vs ++ [vs (Jn.txt xn xf)] = (J0.tx ++ [(Jn.txt xn xf)]).map vs from by rw [List.map_append]; rfl, show 0 + J0.tx.length + 1 = (J0.tx ++ [(Jn.txt xn xf)]).length from by simp] at hS
    replace hS : St _ [] [_, _, _, _, _, _, _, _, _, _, _, _, _, _, _] _ := hS
    refine ⟨⟨iQ, iQ, iQ, trivial⟩, ?_⟩
    refine gQ 9 rfl rfl hF hS rfl (ef_qt (q_call fn18 rfl (fun w hS => genuine_ct _ _ _ _ (by omega) (by omega) w (own_slV (f := vs) (xs := (Dk.image (Dk.mount (Jn.app J0 (Dk.trip S0 (tr.toNat : Int)) (Jn.txt xn xf)).2.1 ps))) (hS.own _ (List.mem_of_getElem? (i := 1) rfl)).1 (Dk.image_64 hOM) rfl (by first | decide | omega)) (own_slV (f := vs) (xs := (J0.tx ++ [(Jn.txt xn xf)])) (hS.own _ (List.mem_of_getElem? (i := 6) rfl)).1 (hme) rfl (by first | decide | omega)) (hS.ext _ _ hg0)) (fun _ _ _ h => h))) ?_
    clear hF hS; rintro _ _ _ a w ⟨rfl, rfl, rfl⟩ hF hS
    refine ⟨⟨iQ, iQ, iQ, trivial⟩, ?_⟩
    refine goW_take 10 _ rfl kQ rfl hF (hS.keep sQ zQ) (q_not rfl) ?_
    clear hF; intro a hF
    exact goW_done kQ (j9_mk qa_12_1 qb_12_1 qc_12_1 qd_12_1 v_12_1 v_12_2 v_12_4 v_12_7 v_12_8 ((And.intro hD_12_1 trivial)) (hF.sub (L' := [(7, _), (11, _), (12, _), (17, _), (93, _)]) ⟨rfl, rfl, rfl, rfl, rfl, trivial⟩) (((((hS.perm (.cons _ (.cons _ (.cons _ (.cons _ (.cons _ (.swap _ _ _))))))).perm (.cons _ (.cons _ (.cons _ (.cons _ (.swap _ _ _)))))).perm (.cons _ (.cons _ (.cons _ (.swap _ _ _))))).perm (.cons _ (.cons _ (.swap _ _ _)))).perm (.cons _ (.swap _ _ _))))
  rintro a w ⟨qa_12_1, qb_12_1, qc_12_1, qd_12_1, v_12_1, v_12_2, v_12_4, v_12_7, v_12_8, ⟨hD_12_1, -⟩, hF, hS⟩
  (try dsimp only at hF); (try dsimp only at hS)
  refine hK15 _ _ ?_
  clear hK15
  refine wp_ifn hF rfl (fun hc4 => ?_) (fun hc4 => ?_)
  ·refine wp_seq_k ?_; intro K16 hK16
   refine reg hF hS (sq rfl (q_call fn7 rfl (fun w hS => sanity40_ct w (hS.ext _ _ hg1)) (fun _ _ _ h => h)) <|
     sq rfl (q_assign rfl) <|
     sq_end) ?_
   clear hF hS; intro a w hF hS
   refine hK16 _ _ ?_
   clear hK16
   refine wp_ret ?_
   exact fn_ret (rs := [.tmp 10]) rfl hF hS (vs := [_]) ⟨rfl, trivial⟩ zQ zQ (rfl)
  ·have hsv := Jn.survives hFi hsvl (Jn.txt xn xf) (x := (tr.toNat : Int)) (by omega) (by omega) ps hc4
   refine wp_skip ?_
   refine hK14 _ _ ?_
   clear hK14
   refine wp_seq_k ?_; intro K17 hK17
   refine regl ?_
   refine wpl_sq hF hS (sq rfl (q_move rfl) <|
     sq_end) ?_
   clear hF hS; intro a w hF hS
   replace hS := hS.perm (.cons _ (.cons _ (.swap _ _ _)))
   replace hS := hS.perm (.cons _ (.swap _ _ _))
   replace hS := hS.perm (.swap _ _ _)
   replace hS := hS.perm (.cons _ (.cons _ (.cons _ (.swap _ _ _))))
   replace hS := hS.perm (.cons _ (.cons _ (.swap _ _ _)))
   replace hS := hS.perm (.cons _ (.swap _ _ _))
   replace hS := hS.perm (.cons _ (.cons _ (.cons _ (.cons _ (.swap _ _ _)))))
   replace hS := hS.perm (.cons _ (.cons _ (.cons _ (.swap _ _ _))))
   replace hS := hS.perm (.cons _ (.cons _ (.swap _ _ _)))
   replace hS := hS.perm (.cons _ (.cons _ (.cons _ (.cons _ (.cons _ (.swap _ _ _))))))
   replace hS := hS.perm (.cons _ (.cons _ (.cons _ (.cons _ (.swap _ _ _)))))
   replace hS := hS.perm (.cons _ (.cons _ (.cons _ (.swap _ _ _))))
   replace hS : St _ [] [_, _, _, _, _, _, _, _, _, _, _, _, _, _, _] _ := hS
   refine wpl_ef hF hS rfl (ef_callx fn12 rfl (List.Perm.refl _) (by exact (open_ct _ _ (by rfl) _ _ hg1 hD_12_1))) ?_
   clear hF hS; rintro _ _ _ a w ⟨_, _, rfl, rfl, ⟨rfl, jb62, qa63, qb64, qc65, qd66, ua67, ub68, uc69, ud70, rfl, rfl, hJ71, hD72⟩⟩ hF hS
   replace hS : St _ [] [_, _, _, _, _, _, _, _, _, _, _, _, _, _, _, _, _, _, _] _ := hS
   refine wpl_sq hF hS (sq rfl (q_move rfl) <|
     sq rfl (q_extract rfl rfl) <|
     sq rfl (q_extract rfl rfl) <|
     sq rfl (q_assign rfl) <|
     sq rfl (q_assign rfl) <|
     sq_end) ?_
   clear hF hS; intro a w hF hS
   refine wpList_nil ?_
   have hWM := Jn.JOk.wf hJ71
   have hx1 := hWM.nl
   have hx2 := hWM.tl
   have hx3 := hWM.e2
   refine hK17 _ _ ?_
   clear hK17
   refine wp_seq_k ?_; intro K18 hK18
   refine wp_seq_k ?_; intro K19 hK19
   refine reg hF hS (sq rfl (q_move rfl) <|
     sq rfl (q_nf (q_nei rfl rfl) (by simp)) <|
     sq rfl (q_move rfl) <|
     sq_go 102 rfl rfl rfl (q_move rfl) <|
     sq_go 102 rfl rfl rfl (q_eqpn_f ty32 rfl rfl) <|
     sq rfl (q_pick_f rfl rfl) <|
     sq_end) ?_
   clear hF hS; intro a w hF hS
   refine hK19 _ _ ?_
   clear hK19
   refine wp_if hF rfl (fun h => absurd h (by simp)) (fun _ => ?_)
   refine wp_skip ?_
   refine hK18 _ _ ?_
   clear hK18
   refine wp_seq_k ?_; intro K20 hK20
   refine regl ?_
   refine wpl_sq hF hS (sq rfl (q_move rfl) <|
     sq_end) ?_
   clear hF hS; intro a w hF hS
   refine wpl_ef hF hS rfl (ef_callx fn21 rfl (List.Perm.refl _) (by exact (jtexts_ct _ _ _ _ _  hJ71))) ?_
   clear hF hS; rintro v77 _ _ a w ⟨_, _, rfl, rfl, ⟨rfl, qa78, qb79, qc80, qd81, rfl, hJ82⟩⟩ hF hS
   replace hS : St _ [] [_, _, _, _, _, _, _, _, _, _, _, _, _, _, _, _, _, _, _, _] _ := hS
   refine wpl_sq hF hS (sq rfl (q_assign rfl) <|
     sq_end) ?_
   clear hF hS; intro a w hF hS
   refine wpList_nil ?_
   refine hK20 _ _ ?_
   clear hK20
   refine wp_seq_k ?_; intro K21 hK21
   revert hS; revert hF; apply regJ (J := J4 (α0 := Value) (α1 := Value) (α2 := Value) (α3 := Value) 130 _ _ _ _ _) #[false, false, false, false, false, false, false, false] 8 mixed rfl rfl
   ·intro w hF hS
    refine goW_take 1 _ rfl kQ rfl hF (hS.keep sQ zQ) (q_move rfl) ?_
    clear hF; intro a hF
    refine goW_take 3 _ rfl kQ rfl hF (hS.keep sQ (sQ.n.n.n.n.n.n.n.n.n.n.n.n.n.n.n.n.n.n.n)) (q_ld_blkW ty56 0 rfl rfl bQ rfl) ?_
    clear hF; intro a hF
    refine gQ 0 rfl rfl hF hS rfl (ef_bslice0 ty22 ty9) ?_
    clear hF hS; rintro v_18_0 _ _ a w ⟨rfl, rfl⟩ hF hS
    refine ⟨⟨.inr (hS.k1 (sQ.n.n.n.n.n.n.n.n.n.n.n.n.n.n.n.n.n.n.n.n)), .inr hS.k0, trivial⟩, ?_⟩
    refine gQ 2 rfl rfl hF hS rfl (ef_append ty22 ty9 0 rfl rfl rfl (src_row ty22 (k := 19) rfl oQ) bQ rfl (by decide)) ?_
    clear hF hS; rintro v_18_2 _ _ a w ⟨rfl, rfl⟩ hF hS
    refine ⟨⟨.inr (hS.k1 (sQ.n.n.n.n.n.n.n.n.n.n.n.n.n.n.n.n.n.n.n.n)), iQ, trivial⟩, ?_⟩
    refine gQ 4 rfl rfl hF hS rfl (ef_qt (q_call fn27 rfl (fun w hS => stext_ct _ _ _ _ _ _ (by first | assumption | rfl) w ) (fun _ _ _ h => h))) ?_
    clear hF hS; rintro _ _ _ a w ⟨rfl, rfl, rfl⟩ hF hS
    refine ⟨⟨iQ, iQ, trivial⟩, ?_⟩
    refine gQ 5 rfl rfl hF hS rfl (ef_bsliceA ty22 ty9 rfl rfl oQ (by decide) rfl rfl) ?_
    clear hF hS; rintro v_18_5 _ _ a w ⟨rfl, rfl⟩ hF hS
    refine ⟨⟨iQ, iQ, trivial⟩, ?_⟩
    refine gQ 6 rfl rfl hF hS rfl (ef_append ty22 ty9 1 rfl rfl rfl (src_row ty22 (k := 0) rfl oQ) bQ rfl (by decide)) ?_
    clear hF hS; rintro v_18_6 _ _ a w ⟨rfl, rfl⟩ hF hS
    replace hS : St _ [] [_, _, _, _, _, _, _, _, _, _, _, _, _, _, _, _, _, _, _, _, _, _] _ := (hS)
    rw [List.nil_append, show J0.tx.map vs ++ [vs (Jn.txt xn xf)] = (J0.tx ++ [(Jn.txt xn xf)]).map vs from by rw [List.map_append]; rfl, show 0 + J0.tx.length + 1 = (J0.tx ++ [(Jn.txt xn xf)]).length from by simp] at hS
    replace hS : St _ [] [_, _, _, _, _, _, _, _, _, _, _, _, _, _, _, _, _, _, _, _, _, _] _ := hS
    refine ⟨⟨iQ, iQ, trivial⟩, ?_⟩
    refine goW_take 7 _ rfl kQ rfl hF (hS.keep sQ zQ) (q_assign rfl) ?_
    clear hF; intro a hF
    exact goW_done kQ (j4_mk v_18_0 v_18_2 v_18_5 v_18_6 (trivial) (hF.sub (L' := [(12, _), (17, _), (20, _), (21, _)]) ⟨rfl, rfl, rfl, rfl, trivial⟩) hS)
   rintro a w ⟨v_18_0, v_18_2, v_18_5, v_18_6, -, hF, hS⟩
   (try dsimp only at hF); (try dsimp only at hS)
   refine hK21 _ _ ?_
   clear hK21
   refine wp_seq_k ?_; intro K22 hK22
   rcases hsv with hsv | ⟨hsv2, hsv⟩
   ·skip
    refine reg hF hS (sq rfl (q_call fn7 rfl (fun w hS => sanity40_ct w (hS.ext _ _ hg1)) (fun _ _ _ h => h)) <|
      sq rfl (q_move rfl) <|
      sq_go 116 rfl rfl rfl (q_move rfl) <|
      sq_go 116 rfl rfl rfl (q_move rfl) <|
      sq_go 116 rfl rfl rfl (q_dt (q_call fn20 rfl (fun w hS => samet_ct _ _ _ _ w (own_slV (f := vs) (xs := (Jn.opn (Dk.mount (Jn.app J0 (Dk.trip S0 (tr.toNat : Int)) (Jn.txt xn xf)).2.1 ps)).tx) (hS.own _ (List.mem_of_getElem? (i := 2) rfl)).1 (hWM.tr') rfl (by first | decide | omega)) (own_slV (f := vs) (xs := (J0.tx ++ [(Jn.txt xn xf)])) (hS.own _ (List.mem_of_getElem? (i := 1) rfl)).1 (hme) rfl (by first | decide | omega))) (fun _ _ _ h => h)) (hsv)) <|
      sq_go 116 rfl rfl rfl (q_move rfl) <|
      sq_skip 120 rfl rfl rfl rfl <|
      sq_skip 120 rfl rfl rfl rfl <|
      sq_skip 120 rfl rfl rfl rfl <|
      sq_skipu 123 rfl rfl rfl <|
      sq_skipu 123 rfl rfl rfl <|
      sq_skipu 123 rfl rfl rfl <|
      sq_skip 120 rfl rfl rfl rfl <|
      sq_go 116 rfl rfl rfl (q_pick_t rfl rfl) <|
      sq rfl (q_pick_t rfl rfl) <|
      sq rfl (q_assign rfl) <|
      sq_end) ?_
    clear hF hS; intro a w hF hS
    refine hK22 _ _ ?_
    clear hK22
    refine wp_ret ?_
    exact fn_ret (rs := [.tmp 10]) rfl hF hS (vs := [_]) ⟨rfl, trivial⟩ zQ zQ (rfl)
   ·skip
    refine reg hF hS (sq rfl (q_call fn7 rfl (fun w hS => sanity40_ct w (hS.ext _ _ hg1)) (fun _ _ _ h => h)) <|
      sq rfl (q_move rfl) <|
      sq_go 116 rfl rfl rfl (q_move rfl) <|
      sq_go 116 rfl rfl rfl (q_move rfl) <|
      sq_go 116 rfl rfl rfl (q_df (q_call fn20 rfl (fun w hS => samet_ct _ _ _ _ w (own_slV (f := vs) (xs := (Jn.opn (Dk.mount (Jn.app J0 (Dk.trip S0 (tr.toNat : Int)) (Jn.txt xn xf)).2.1 ps)).tx) (hS.own _ (List.mem_of_getElem? (i := 2) rfl)).1 (hWM.tr') rfl (by first | decide | omega)) (own_slV (f := vs) (xs := (J0.tx ++ [(Jn.txt xn xf)])) (hS.own _ (List.mem_of_getElem? (i := 1) rfl)).1 (hme) rfl (by first | decide | omega))) (fun _ _ _ h => h)) (by rw [hsv]; exact Jn.step_s J0 (Jn.txt xn xf))) <|
      sq_go 116 rfl rfl rfl (q_move rfl) <|
      sq_go 120 rfl rfl rfl (q_move rfl) <|
      sq_go 120 rfl rfl rfl (q_nt (q_nei rfl rfl) (hsv2)) <|
      sq_go 120 rfl rfl rfl (q_move rfl) <|
      sq_go 123 rfl rfl rfl (q_move rfl) <|
      sq_go 123 rfl rfl rfl (q_move rfl) <|
      sq_go 123 rfl rfl rfl (q_dt (q_call fn20 rfl (fun w hS => samet_ct _ _ _ _ w (own_slV (f := vs) (xs := (Jn.opn (Dk.mount (Jn.app J0 (Dk.trip S0 (tr.toNat : Int)) (Jn.txt xn xf)).2.1 ps)).tx) (hS.own _ (List.mem_of_getElem? (i := 2) rfl)).1 (hWM.tr') rfl (by first | decide | omega)) (own_slV (f := vs) (xs := J0.tx) (hS.own _ (List.mem_of_getElem? (i := 20) rfl)).1 (hFi.g.wf.tr') rfl (by first | decide | omega))) (fun _ _ _ h => h)) (hsv)) <|
      sq_go 120 rfl rfl rfl (q_pick_t rfl rfl) <|
      sq_go 116 rfl rfl rfl (q_pick_f rfl rfl) <|
      sq rfl (q_pick_t rfl rfl) <|
      sq rfl (q_assign rfl) <|
      sq_end) ?_
    clear hF hS; intro a w hF hS
    refine hK22 _ _ ?_
    clear hK22
    refine wp_ret ?_
    exact fn_ret (rs := [.tmp 10]) rfl hF hS (vs := [_]) ⟨rfl, trivial⟩ zQ zQ (rfl)

set_option maxRecDepth 4000 in
set_option maxHeartbeats 2000000 in
theorem jlaw5x_ct (n : Int) (hn : ¬ (1 ≤ n ∧ n ≤ 4096)) (v : Value) (os : List Stp) (xk xi xb xn : Int) (xf : UInt8) (xpv : Value) (h1p : xpv.oneCell' = true) (tr : UInt8) (v4 : Value) (ps : List Int) (w : World) (hb1 : Sl encSt (ph w) v os) (hb4 : Sl Go.Fw.encI (ph w) v4 ps) {fz0 fz1 : Nat × Nat} {bt0 bt1 : TypeId} (hg0 : w.heap[0]? = some (.cells (Sha.kc.map vw).toArray bt0 fz0)) (hg1 : w.heap[2]? = some (.cells (Sha.kc.map vw).toArray bt1 fz1)) : Ct Tryz.prog 5 [vi n, v, .agg [vi xk, vi xi, vi xb, vi xn, vb xf, xpv].toArray, vb tr, v4] w (fun r _ _ => r = .bool true) := by
 refine fn_enter Tryz.func5 rfl Tryz.ntmps5 (Nat.le_of_ble_eq_true rfl) fun a hF hS => ?_
 have hol := hb1.1
 have hpl := hb4.1
 refine wp_seq_k ?_; intro K1 hK1
 refine regl ?_
 refine wpl_ef hF hS rfl (ef_boxA (cs := [vi xk, vi xi, vi xb, vi xn, vb xf, xpv]) rfl) ?_
 clear hF hS; rintro _ _ _ a w ⟨b1, rfl, rfl, rfl⟩ hF hS
 refine wpl_sq hF hS (sq rfl (q_assign rfl) <|
   sq_end) ?_
 clear hF hS; intro a w hF hS
 refine wpList_nil ?_
 refine hK1 _ _ ?_
 clear hK1
 refine wp_seq_k ?_; intro K2 hK2
 refine wp_seq_k ?_; intro K3 hK3
 refine regl ?_
 refine wpl_sq hF hS (sq rfl (q_move rfl) <|
   sq rfl (q_gti rfl rfl) <|
   sq rfl (q_move rfl) <|
   sq_end) ?_
 clear hF hS; intro a w hF hS
 refine wpl_or 2 24 3 hF hS rfl rfl rfl rfl rfl (fun hg => have hg := (by first | exact of_decide_eq_false hg | exact hg); sq_go 24 rfl rfl rfl (q_move rfl) <|
   sq_go 24 rfl rfl rfl (q_len_sl ty40 hb1 rfl) <|
   sq_go 24 rfl rfl rfl (q_gti rfl rfl) <|
   sq_end) rfl rfl ?_
 clear hF hS; intro a w hF hS
 refine wpl_sq hF hS (sq rfl (q_move rfl) <|
   sq_end) ?_
 clear hF hS; intro a w hF hS
 refine wpl_or 7 29 3 hF hS rfl rfl rfl rfl rfl (fun hg => have hg := hg; sq_go 29 rfl rfl rfl (q_move rfl) <|
   sq_go 29 rfl rfl rfl (q_len_sl ty51 hb4 rfl) <|
   sq_go 29 rfl rfl rfl (q_gti rfl rfl) <|
   sq_end) rfl rfl ?_
 clear hF hS; intro a w hF hS
 refine wpList_nil ?_
 refine hK3 _ _ ?_
 clear hK3
 refine wp_if hF rfl (fun hc1 => ?_) (fun hc1 => ?_)
 ·(try simp only [Bool.or_eq_true, Bool.and_eq_true, Bool.or_eq_false_iff, Bool.and_eq_false_iff, decide_eq_true_eq, decide_eq_false_iff_not, Bool.not_eq_true', Bool.not_eq_false'] at hc1)
  refine wp_seq_k ?_; intro K4 hK4
  refine reg hF hS (sq rfl (q_call fn7 rfl (fun w hS => sanity40_ct w (hS.ext _ _ hg1)) (fun _ _ _ h => h)) <|
    sq rfl (q_assign rfl) <|
    sq_end) ?_
  clear hF hS; intro a w hF hS
  refine hK4 _ _ ?_
  clear hK4
  refine wp_ret ?_
  exact fn_ret (rs := [.tmp 10]) rfl hF hS (vs := [_]) ⟨rfl, trivial⟩ zQ zQ (rfl)
 ·(try simp only [Bool.or_eq_true, Bool.and_eq_true, Bool.or_eq_false_iff, Bool.and_eq_false_iff, decide_eq_true_eq, decide_eq_false_iff_not, Bool.not_eq_true', Bool.not_eq_false'] at hc1)
  refine wp_skip ?_
  refine hK2 _ _ ?_
  clear hK2
  refine wp_seq_k ?_; intro K5 hK5
  refine reg hF hS (sq rfl (q_move rfl) <|
    sq rfl (q_move rfl) <|
    sq rfl (q_call fn15 rfl (fun w hS => filledx_ct _ (by omega) _ w ) (fun _ _ _ h => h)) <|
    sq rfl (q_move rfl) <|
    sq rfl (q_extract rfl rfl) <|
    sq rfl (q_extract rfl rfl) <|
    sq rfl (q_extract rfl rfl) <|
    sq rfl (q_assign rfl) <|
    sq rfl (q_assign rfl) <|
    sq rfl (q_assign rfl) <|
    sq_end) ?_
  clear hF hS; intro a w hF hS
  refine hK5 _ _ ?_
  clear hK5
  refine wp_seq_k ?_; intro K6 hK6
  refine wp_seq_k ?_; intro K7 hK7
  refine reg hF hS (sq rfl (q_move rfl) <|
    sq rfl (q_not rfl) <|
    sq_end) ?_
  clear hF hS; intro a w hF hS
  refine hK7 _ _ ?_
  clear hK7
  refine wp_if hF rfl (fun _ => ?_) (fun h => absurd h (by simp))
  refine wp_seq_k ?_; intro K8 hK8
  refine reg hF hS (sq rfl (q_call fn7 rfl (fun w hS => sanity40_ct w (hS.ext _ _ hg1)) (fun _ _ _ h => h)) <|
    sq rfl (q_move rfl) <|
    sq_go 45 rfl rfl rfl (q_move rfl) <|
    sq_go 45 rfl rfl rfl (q_dt (q_lti rfl rfl) (by omega)) <|
    sq rfl (q_pick_t rfl rfl) <|
    sq rfl (q_assign rfl) <|
    sq_end) ?_
  clear hF hS; intro a w hF hS
  refine hK8 _ _ ?_
  clear hK8
  refine wp_ret ?_
  exact fn_ret (rs := [.tmp 10]) rfl hF hS (vs := [_]) ⟨rfl, trivial⟩ zQ zQ (rfl)

theorem jlaw5_all (n : Int) (v : Value) (os : List Stp) (xk xi xb xn : Int) (xf : UInt8) (xpv : Value) (h1p : xpv.oneCell' = true) (tr : UInt8) (v4 : Value) (ps : List Int) (w : World) (hb1 : Sl encSt (ph w) v os) (hb4 : Sl Go.Fw.encI (ph w) v4 ps) {fz0 fz1 : Nat × Nat} {bt0 bt1 : TypeId} (hg0 : w.heap[0]? = some (.cells (Sha.kc.map vw).toArray bt0 fz0)) (hg1 : w.heap[2]? = some (.cells (Sha.kc.map vw).toArray bt1 fz1)) : Ct Tryz.prog 5 [vi n, v, .agg [vi xk, vi xi, vi xb, vi xn, vb xf, xpv].toArray, vb tr, v4] w (fun r _ _ => r = .bool true) := by
 rcases Decidable.em (1 ≤ n ∧ n ≤ 4096) with h | h
 ·obtain ⟨m, rfl⟩ : ∃ m : Nat, n = (m : Int) := ⟨n.toNat, by omega⟩
  exact jlaw5_ct m (by omega) v os xk xi xb xn xf xpv h1p tr v4 ps w hb1 hb4 hg0 hg1
 ·exact jlaw5x_ct n h v os xk xi xb xn xf xpv h1p tr v4 ps w hb1 hb4 hg0 hg1
end Go.Proofs.YtibbhobfdbfkkaaGreatDoor
