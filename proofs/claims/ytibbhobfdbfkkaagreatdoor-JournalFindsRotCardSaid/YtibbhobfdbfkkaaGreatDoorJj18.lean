/- A text of a proof over this seat: walks over the program's functions and the plain laws that they need. -/
import Derived.Test.YtibbhobfdbfkkaaGreatDoorJj14
import Derived.Test.YtibbhobfdbfkkaaGreatDoorJgB
import Derived.Test.YtibbhobfdbfkkaaGreatDoorFwB
set_option linter.all false
namespace Go.Proofs.YtibbhobfdbfkkaaGreatDoor
open Go.Fw


attribute [local irreducible] Sha.sum Jn.good Jn.hd Jn.lb Jn.cnt Jn.unp Jn.pack Jn.opn Jn.app

set_option maxRecDepth 4000 in
set_option maxHeartbeats 2000000 in
theorem filled_ct (n : Nat) (hn : 1 ≤ n ∧ n ≤ 4096) (v : Value) (os : List Stp) (w : World) (hb1 : Sl encSt (ph w) v os) {fz1 : Nat × Nat} {bt1 : TypeId} (hg1 : w.heap[2]? = some (.cells (Sha.kc.map vw).toArray bt1 fz1)) : Ct Tryz.prog 15 [vi (n : Int), v] w (fun r zs hs => zs = [] ∧ ∃ (h : Dk.Hd) (q1 q2 q3 q4 : Res) (tv : Value) (S : Dk.Dsk) (J : Jn.JS), r = .tuple [.pointer (some ⟨h.b, 0, none⟩), tv, .bool true].toArray ∧ hs = [q1, q2, q3, q4, .row tv 9 1 J.tx.length (J.tx.map vs)] ∧ DD h S q1 q2 q3 q4 ∧ Jn.FilT S J ∧ S.s.length = n ∧ J.tx.length ≤ os.length) := by
 refine fn_enter Tryz.func15 rfl Tryz.ntmps15 (Nat.le_of_ble_eq_true rfl) fun a hF hS => ?_
 have hol := hb1.1
 refine wp_seq_k ?_; intro K1 hK1
 refine reg hF hS (sq rfl (q_assign rfl) <|
   sq rfl (q_assign rfl) <|
   sq rfl (q_assign rfl) <|
   sq_end) ?_
 clear hF hS; intro a w hF hS
 refine hK1 _ _ ?_
 clear hK1
 refine wp_seq_k ?_; intro K2 hK2
 refine regl ?_
 refine wpl_sq hF hS (sq rfl (q_move rfl) <|
   sq_end) ?_
 clear hF hS; intro a w hF hS
 refine wpl_ef hF hS rfl (ef_call fn8 rfl (fun w hS => dnew_ct n (by omega) w )) ?_
 clear hF hS; rintro _ _ _ a w ⟨_, _, rfl, rfl, ⟨rfl, hh2, qa3, qb4, qc5, qd6, rfl, rfl, hD7⟩⟩ hF hS
 replace hS : St _ [] [_, _, _, _] _ := hS
 refine wpl_sq hF hS (sq rfl (q_move rfl) <|
   sq rfl (q_extract rfl rfl) <|
   sq rfl (q_extract rfl rfl) <|
   sq rfl (q_assign rfl) <|
   sq rfl (q_assign rfl) <|
   sq_end) ?_
 clear hF hS; intro a w hF hS
 refine wpList_nil ?_
 refine hK2 _ _ ?_
 clear hK2
 refine wp_seq_k ?_; intro K3 hK3
 refine wp_seq_k ?_; intro K4 hK4
 refine reg hF hS (sq rfl (q_move rfl) <|
   sq rfl (q_nf (q_nei rfl rfl) (by simp)) <|
   sq rfl (q_move rfl) <|
   sq_go 23 rfl rfl rfl (q_move rfl) <|
   sq_go 23 rfl rfl rfl (q_eqpn_f ty24 rfl rfl) <|
   sq rfl (q_pick_f rfl rfl) <|
   sq_end) ?_
 clear hF hS; intro a w hF hS
 refine hK4 _ _ ?_
 clear hK4
 refine wp_if hF rfl (fun h => absurd h (by simp)) (fun _ => ?_)
 refine wp_skip ?_
 refine hK3 _ _ ?_
 clear hK3
 refine wp_seq_k ?_; intro K5 hK5
 refine regl ?_
 refine wpl_sq hF hS (sq rfl (q_move rfl) <|
   sq_end) ?_
 clear hF hS; intro a w hF hS
 refine wpl_ef hF hS rfl (ef_callx fn12 rfl (List.Perm.refl _) (by exact (open_ct _ (Dk.new n) (by rfl) _ _ hg1 hD7))) ?_
 clear hF hS; rintro _ _ _ a w ⟨_, _, rfl, rfl, ⟨rfl, jb13, qa14, qb15, qc16, qd17, ua18, ub19, uc20, ud21, rfl, rfl, hJ22, hD23⟩⟩ hF hS
 replace hS : St _ [] [_, _, _, _, _, _, _, _] _ := hS
 refine wpl_sq hF hS (sq rfl (q_move rfl) <|
   sq rfl (q_extract rfl rfl) <|
   sq rfl (q_extract rfl rfl) <|
   sq rfl (q_assign rfl) <|
   sq rfl (q_assign rfl) <|
   sq_end) ?_
 clear hF hS; intro a w hF hS
 refine wpList_nil ?_
 rw [Jn.opn_nil Jn.still_new (fun j hj => Jn.new_txa (by rw [Dk.new_len] at hj; exact hj))] at hJ22
 refine hK5 _ _ ?_
 clear hK5
 refine wp_seq_k ?_; intro K6 hK6
 refine wp_seq_k ?_; intro K7 hK7
 refine reg hF hS (sq rfl (q_move rfl) <|
   sq rfl (q_nf (q_nei rfl rfl) (by simp)) <|
   sq rfl (q_move rfl) <|
   sq_go 34 rfl rfl rfl (q_move rfl) <|
   sq_go 34 rfl rfl rfl (q_eqpn_f ty32 rfl rfl) <|
   sq rfl (q_pick_f rfl rfl) <|
   sq_end) ?_
 clear hF hS; intro a w hF hS
 refine hK7 _ _ ?_
 clear hK7
 refine wp_if hF rfl (fun h => absurd h (by simp)) (fun _ => ?_)
 refine wp_skip ?_
 refine hK6 _ _ ?_
 clear hK6
 refine wp_seq_k ?_; intro K8 hK8
 refine reg hF hS (sq rfl (q_assign rfl) <|
   sq_end) ?_
 clear hF hS; intro a w hF hS
 replace hS := hS.nilRow 9 1
 refine hK8 _ _ ?_
 clear hK8
 refine wp_seq_k ?_; intro K9 hK9
 refine wp_seq_k ?_; intro K10 hK10
 refine reg hF hS (sq rfl (q_move rfl) <|
   sq rfl (q_len_sl ty40 hb1 rfl) <|
   sq rfl (q_move rfl) <|
   sq_end) ?_
 clear hF hS; intro a w hF hS
 refine hK10 _ _ ?_
 clear hK10
 refine wp_block ?_
 obtain ⟨hs0, hhs0, hS⟩ : ∃ h, h = _ ∧ St _ _ h _ := ⟨_, rfl, hS⟩
 refine wp_loopx (γ := Dk.Dsk × Jn.JS × Value × Res × Res × Res × Res × Res × Res × Res × Res × Nat) ((Dk.new n), Jn.jnil, (Value.slice none 0 0), ua18, ub19, uc20, ud21, qa14, qb15, qc16, qd17, 0) (fun (gg : Dk.Dsk × Jn.JS × Value × Res × Res × Res × Res × Res × Res × Res × Res × Nat) => match gg with | (S, J, ut, q1, q2, q3, q4, p1, p2, p3, p4, j) => [(11, ut), (40, vi (j : Int))]) [(7, _), (9, _), (38, _), (39, _)] (fun (gg : Dk.Dsk × Jn.JS × Value × Res × Res × Res × Res × Res × Res × Res × Res × Nat) => match gg with | (S, J, ut, q1, q2, q3, q4, p1, p2, p3, p4, j) => (((((((((hs0.set 5 (q1)).set 6 (q2)).set 7 (q3)).set 8 (q4)).set 1 (p1)).set 2 (p2)).set 3 (p3)).set 4 (p4)).set 0 (.row ut 9 1 J.tx.length (J.tx.map vs)))) (fun (gg : Dk.Dsk × Jn.JS × Value × Res × Res × Res × Res × Res × Res × Res × Res × Nat) => match gg with | (S, J, ut, q1, q2, q3, q4, p1, p2, p3, p4, j) => j ≤ os.length ∧ DD hh2 S q1 q2 q3 q4 ∧ JJ jb13 hh2.b J p1 p2 p3 p4 ∧ Jn.FilT S J ∧ S.s.length = n ∧ J.tx.length ≤ j) (fun (gg : Dk.Dsk × Jn.JS × Value × Res × Res × Res × Res × Res × Res × Res × Res × Nat) => match gg with | (S, J, ut, q1, q2, q3, q4, p1, p2, p3, p4, j) => os.length - j) (hF.sub ⟨rfl, rfl, rfl, rfl, rfl, rfl, trivial⟩) (by subst hhs0; exact hS) (by exact ⟨Nat.zero_le _, hD23, hJ22, Jn.filt_nil hn.1 hn.2, Dk.new_len _, Nat.zero_le _⟩) ?_
 clear hF hS; rintro ⟨S, J, ut, q1, q2, q3, q4, p1, p2, p3, p4, j⟩ a w hfact hF hS
 subst hhs0; (try dsimp only at hfact); (try dsimp only at hF); (try dsimp only at hS)
 obtain ⟨hj0, hDq, hJp, hFi, hsl, htl⟩ := hfact
 replace hS : St _ [] [_, _, _, _, _, _, _, _, _] _ := hS
 have hr2 := hFi.g.wf.nl
 have hr3 := hFi.g.wf.tl
 have hr4 := hFi.g.wf.e2
 refine wp_seq_k ?_; intro K11 hK11
 refine reg hF hS (sq rfl (q_lti rfl rfl) <|
   sq_end) ?_
 clear hF hS; intro a w hF hS
 refine hK11 _ _ ?_
 clear hK11
 refine wp_seq_k ?_; intro K12 hK12
 refine wp_ifd hF rfl (fun hc3 => ?_) (fun hc3 => ?_)
 ·obtain ⟨pv, hqc, hk9, hi9, hb9, hn9, hps9⟩ := st_at hb1 (k := ((j : Int)).toNat) (by omega)
  have h1p := sl_one' hps9
  refine wp_skip ?_
  refine hK12 _ _ ?_
  clear hK12
  refine wp_seq_k ?_; intro K13 hK13
  refine wp_block ?_
  refine wp_seq_k ?_; intro K14 hK14
  refine regl ?_
  refine wpl_sq hF hS (sq rfl (q_idx_sl ty40 ty56 hb1 rfl rfl (by omega)) <|
    sq rfl (q_ld_st ty56 hb1 zin0 hqc rfl rfl (by omega)) <|
    sq_end) ?_
  clear hF hS; intro a w hF hS
  refine wpl_ef hF hS rfl (ef_allocA ty56) ?_
  clear hF hS; rintro _ _ _ a w ⟨b29, rfl, rfl, rfl⟩ hF hS
  refine wpl_ef hF hS rfl (ef_storeW ty56 0 rfl rfl rfl rfl bQ (oc_cons rfl (oc_cons rfl (oc_cons rfl (oc_cons rfl (oc_cons rfl (oc_cons (sl_one' hps9) oc_nil)))))) bQ) ?_
  clear hF hS; rintro _ _ _ a w ⟨rfl, rfl, rfl⟩ hF hS
  replace hS : St _ [] [_, _, _, _, _, _, _, _, _, _] _ := hS
  refine wpList_nil ?_
  refine hK14 _ _ ?_
  clear hK14
  refine wp_seq_k ?_; intro K15 hK15
  refine regl ?_
  refine wpl_sq hF hS (sq rfl (q_move rfl) <|
    sq rfl (q_ld_blkW ty56 0 rfl rfl bQ rfl) <|
    sq rfl (q_call fn27 rfl (fun w hS => stext_ct _ _ _ _ _ _ (by first | assumption | rfl) w ) (fun _ _ _ h => h)) <|
    sq_end) ?_
  clear hF hS; intro a w hF hS
  replace hS := hS.perm (.cons _ (.swap _ _ _))
  replace hS := hS.perm (.swap _ _ _)
  replace hS := hS.perm (.cons _ (.cons _ (.swap _ _ _)))
  replace hS := hS.perm (.cons _ (.swap _ _ _))
  replace hS := hS.perm (.cons _ (.cons _ (.cons _ (.swap _ _ _))))
  replace hS := hS.perm (.cons _ (.cons _ (.swap _ _ _)))
  replace hS := hS.perm (.cons _ (.cons _ (.cons _ (.cons _ (.swap _ _ _)))))
  replace hS := hS.perm (.cons _ (.cons _ (.cons _ (.swap _ _ _))))
  replace hS := hS.perm (.cons _ (.cons _ (.cons _ (.cons _ (.cons _ (.swap _ _ _))))))
  replace hS := hS.perm (.cons _ (.cons _ (.cons _ (.cons _ (.swap _ _ _)))))
  replace hS := hS.perm (.cons _ (.cons _ (.cons _ (.cons _ (.cons _ (.cons _ (.swap _ _ _)))))))
  replace hS := hS.perm (.cons _ (.cons _ (.cons _ (.cons _ (.cons _ (.swap _ _ _))))))
  replace hS := hS.perm (.cons _ (.cons _ (.cons _ (.cons _ (.cons _ (.cons _ (.cons _ (.swap _ _ _))))))))
  replace hS := hS.perm (.cons _ (.cons _ (.cons _ (.cons _ (.cons _ (.cons _ (.swap _ _ _)))))))
  replace hS := hS.perm (.cons _ (.cons _ (.cons _ (.cons _ (.cons _ (.cons _ (.cons _ (.cons _ (.swap _ _ _)))))))))
  replace hS := hS.perm (.cons _ (.cons _ (.cons _ (.cons _ (.cons _ (.cons _ (.cons _ (.swap _ _ _))))))))
  replace hS : St _ [] [_, _, _, _, _, _, _, _, _, _] _ := hS
  refine wpl_ef hF hS rfl (ef_callx fn26 rfl (List.Perm.refl _) (by exact (jappend_ct _ _ _ _ _ _ _ hg1 hJp hDq))) ?_
  clear hF hS; rintro _ _ _ a w ⟨_, _, rfl, rfl, ⟨rfl, rfl, qa31, qb32, qc33, qd34, ua35, ub36, uc37, ud38, rfl, hJ39, hD40⟩⟩ hF hS
  replace hS : St _ [] [_, _, _, _, _, _, _, _, _, _] _ := hS
  refine wpl_sq hF hS (sq rfl (q_move rfl) <|
    sq rfl (q_extract rfl rfl) <|
    sq rfl (q_extract rfl rfl) <|
    sq rfl (q_assign rfl) <|
    sq rfl (q_assign rfl) <|
    sq_end) ?_
  clear hF hS; intro a w hF hS
  refine wpList_nil ?_
  obtain ⟨hF2, hl2, hcase⟩ := Jn.filt_step hFi (os.getD ((j : Int)).toNat st0).n (os.getD ((j : Int)).toNat st0).f
  refine hK15 _ _ ?_
  clear hK15
  refine wp_seq_k ?_; intro K16 hK16
  refine reg hF hS (sq rfl (q_move rfl) <|
    sq rfl (q_eqi rfl rfl) <|
    sq_end) ?_
  clear hF hS; intro a w hF hS
  refine hK16 _ _ ?_
  clear hK16
  refine wp_ifd hF rfl (fun hc4 => ?_) (fun hc4 => ?_)
  ·have hcase := hcase.resolve_right (fun h9 => h9.1 hc4)
   obtain ⟨hz0, hz1, hz2⟩ := hcase
   refine regl ?_
   refine wpl_sq hF hS (sq rfl (q_move rfl) <|
     sq rfl (q_ld_blkW ty56 8 rfl rfl bQ rfl) <|
     sq rfl (q_call fn27 rfl (fun w hS => stext_ct _ _ _ _ _ _ (by first | assumption | rfl) w ) (fun _ _ _ h => h)) <|
     sq_end) ?_
   clear hF hS; intro a w hF hS
   refine wpl_ef hF hS rfl (ef_bsliceA ty22 ty9 rfl rfl oQ (by decide) rfl rfl) ?_
   clear hF hS; rintro v41 _ _ a w ⟨rfl, rfl⟩ hF hS
   replace hS : St _ [] [_, _, _, _, _, _, _, _, _, _, _] _ := hS
   refine wpl_ef hF hS rfl (ef_append ty22 ty9 10 rfl rfl rfl (src_row ty22 (k := 0) rfl oQ) bQ rfl (by decide)) ?_
   clear hF hS; rintro v43 _ _ a w ⟨rfl, rfl⟩ hF hS
   replace hS : St _ [] [_, _, _, _, _, _, _, _, _, _, _] _ := hS
   refine wpl_sq hF hS (sq rfl (q_assign rfl) <|
     sq_end) ?_
   clear hF hS; intro a w hF hS
   refine wpList_nil ?_
   refine hK13 _ _ ?_
   clear hK13
   refine reg hF hS (sq rfl (q_addi rfl rfl (by omega)) <|
     sq rfl (q_move rfl) <|
     sq_end) ?_
   clear hF hS; intro a w hF hS
   replace hS := hS.perm (.cons _ (.cons _ (.cons _ (.cons _ (.cons _ (.cons _ (.cons _ (.cons _ (.cons _ (.swap _ _ _))))))))))
   replace hS := hS.perm (.cons _ (.cons _ (.cons _ (.cons _ (.cons _ (.cons _ (.cons _ (.cons _ (.swap _ _ _)))))))))
   replace hS := hS.perm (.cons _ (.cons _ (.cons _ (.cons _ (.cons _ (.cons _ (.cons _ (.swap _ _ _))))))))
   replace hS := hS.perm (.cons _ (.cons _ (.cons _ (.cons _ (.cons _ (.cons _ (.swap _ _ _)))))))
   replace hS := hS.perm (.cons _ (.cons _ (.cons _ (.cons _ (.cons _ (.swap _ _ _))))))
   replace hS := hS.perm (.cons _ (.cons _ (.cons _ (.cons _ (.swap _ _ _)))))
   replace hS := hS.perm (.cons _ (.cons _ (.cons _ (.swap _ _ _))))
   replace hS := hS.perm (.cons _ (.cons _ (.swap _ _ _)))
   replace hS := hS.perm (.cons _ (.swap _ _ _))
   replace hS := hS.perm (.swap _ _ _)
   replace hS := hS.perm (.cons _ (.swap _ _ _))
   replace hS := hS.perm (.cons _ (.cons _ (.swap _ _ _)))
   replace hS := hS.perm (.cons _ (.cons _ (.cons _ (.swap _ _ _))))
   replace hS := hS.perm (.cons _ (.cons _ (.cons _ (.cons _ (.swap _ _ _)))))
   replace hS := hS.perm (.cons _ (.cons _ (.cons _ (.cons _ (.cons _ (.swap _ _ _))))))
   replace hS := hS.perm (.cons _ (.cons _ (.cons _ (.cons _ (.cons _ (.cons _ (.swap _ _ _)))))))
   replace hS := hS.perm (.cons _ (.cons _ (.cons _ (.cons _ (.cons _ (.cons _ (.cons _ (.swap _ _ _))))))))
   replace hS := hS.perm (.cons _ (.cons _ (.cons _ (.cons _ (.cons _ (.cons _ (.cons _ (.cons _ (.swap _ _ _)))))))))
   replace hS := hS.keep zQ (zQ.k.k.k.k.k.k.k.k.k)
   refine ⟨((Jn.app J S (Jn.txt (os.getD ((j : Int)).toNat st0).n (os.getD ((j : Int)).toNat st0).f)).2.1, (Jn.app J S (Jn.txt (os.getD ((j : Int)).toNat st0).n (os.getD ((j : Int)).toNat st0).f)).1, v43, ua35, ub36, uc37, ud38, qa31, qb32, qc33, qd34, j + 1), ?_, ?_, hF.sub ⟨rfl, rfl, rfl, rfl, rfl, rfl, trivial⟩, ?_⟩
   ·(try dsimp only); omega
   ·exact ⟨by omega, hD40, hJ39, hF2, hl2.trans hsl, by rw [hz2]; simp; omega⟩
   ·(try dsimp only [List.set_cons_zero, List.set_cons_succ])
    rw [hz2, List.length_append, List.map_append]
    exact hS
  ·have hcase := hcase.resolve_left (fun h9 => hc4 h9.1)
   obtain ⟨hz0, hz1⟩ := hcase
   refine wp_skip ?_
   refine hK13 _ _ ?_
   clear hK13
   refine reg hF hS (sq rfl (q_addi rfl rfl (by omega)) <|
     sq rfl (q_move rfl) <|
     sq_end) ?_
   clear hF hS; intro a w hF hS
   replace hS := hS.perm (.cons _ (.cons _ (.cons _ (.cons _ (.cons _ (.cons _ (.cons _ (.cons _ (.swap _ _ _)))))))))
   replace hS := hS.perm (.cons _ (.cons _ (.cons _ (.cons _ (.cons _ (.cons _ (.cons _ (.swap _ _ _))))))))
   replace hS := hS.perm (.cons _ (.cons _ (.cons _ (.cons _ (.cons _ (.cons _ (.swap _ _ _)))))))
   replace hS := hS.perm (.cons _ (.cons _ (.cons _ (.cons _ (.cons _ (.swap _ _ _))))))
   replace hS := hS.perm (.cons _ (.cons _ (.cons _ (.cons _ (.swap _ _ _)))))
   replace hS := hS.perm (.cons _ (.cons _ (.cons _ (.swap _ _ _))))
   replace hS := hS.perm (.cons _ (.cons _ (.swap _ _ _)))
   replace hS := hS.perm (.cons _ (.swap _ _ _))
   replace hS := hS.perm (.swap _ _ _)
   replace hS := hS.keep zQ (zQ.k.k.k.k.k.k.k.k.k)
   refine ⟨((Jn.app J S (Jn.txt (os.getD ((j : Int)).toNat st0).n (os.getD ((j : Int)).toNat st0).f)).2.1, (Jn.app J S (Jn.txt (os.getD ((j : Int)).toNat st0).n (os.getD ((j : Int)).toNat st0).f)).1, ut, ua35, ub36, uc37, ud38, qa31, qb32, qc33, qd34, j + 1), ?_, ?_, hF.sub ⟨rfl, rfl, rfl, rfl, rfl, rfl, trivial⟩, ?_⟩
   ·(try dsimp only); omega
   ·exact ⟨by omega, hD40, hJ39, hF2, hl2.trans hsl, by rw [hz1]; omega⟩
   ·(try dsimp only [List.set_cons_zero, List.set_cons_succ])
    rw [hz1]
    exact hS
 ·refine wp_exit ?_
  refine hK9 _ _ ?_
  clear hK9
  refine wp_seq_k ?_; intro K17 hK17
  refine reg hF hS (sq rfl (q_move rfl) <|
    sq rfl (q_move rfl) <|
    sq rfl (q_assign rfl) <|
    sq rfl (q_assign rfl) <|
    sq rfl (q_assign rfl) <|
    sq_end) ?_
  clear hF hS; intro a w hF hS
  refine hK17 _ _ ?_
  clear hK17
  refine wp_ret ?_
  replace hS := hS.perm (.cons _ (.cons _ (.cons _ (.cons _ (.swap _ _ _)))))
  replace hS := hS.perm (.cons _ (.cons _ (.cons _ (.swap _ _ _))))
  replace hS := hS.perm (.cons _ (.cons _ (.swap _ _ _)))
  replace hS := hS.perm (.cons _ (.swap _ _ _))
  replace hS := hS.perm (.swap _ _ _)
  replace hS := hS.perm (.cons _ (.cons _ (.cons _ (.cons _ (.cons _ (.swap _ _ _))))))
  replace hS := hS.perm (.cons _ (.cons _ (.cons _ (.cons _ (.swap _ _ _)))))
  replace hS := hS.perm (.cons _ (.cons _ (.cons _ (.swap _ _ _))))
  replace hS := hS.perm (.cons _ (.cons _ (.swap _ _ _)))
  replace hS := hS.perm (.cons _ (.swap _ _ _))
  replace hS := hS.perm (.cons _ (.cons _ (.cons _ (.cons _ (.cons _ (.cons _ (.swap _ _ _)))))))
  replace hS := hS.perm (.cons _ (.cons _ (.cons _ (.cons _ (.cons _ (.swap _ _ _))))))
  replace hS := hS.perm (.cons _ (.cons _ (.cons _ (.cons _ (.swap _ _ _)))))
  replace hS := hS.perm (.cons _ (.cons _ (.cons _ (.swap _ _ _))))
  replace hS := hS.perm (.cons _ (.cons _ (.swap _ _ _)))
  replace hS := hS.perm (.cons _ (.cons _ (.cons _ (.cons _ (.cons _ (.cons _ (.cons _ (.swap _ _ _))))))))
  replace hS := hS.perm (.cons _ (.cons _ (.cons _ (.cons _ (.cons _ (.cons _ (.swap _ _ _)))))))
  replace hS := hS.perm (.cons _ (.cons _ (.cons _ (.cons _ (.cons _ (.swap _ _ _))))))
  replace hS := hS.perm (.cons _ (.cons _ (.cons _ (.cons _ (.swap _ _ _)))))
  replace hS := hS.perm (.cons _ (.cons _ (.cons _ (.swap _ _ _))))
  exact fn_ret (rs := [.tmp 4, .tmp 5, .tmp 6]) rfl hF hS (vs := [_, _, _]) ⟨rfl, rfl, rfl, trivial⟩ sQ (zQ.k.k.k.k.k) ⟨rfl, hh2, _, _, _, _, ut, S, J, rfl, rfl, hDq, hFi, hsl, by omega⟩

set_option maxRecDepth 4000 in
set_option maxHeartbeats 2000000 in
theorem filledx_ct (n : Int) (hn : ¬ (1 ≤ n ∧ n ≤ 4096)) (v : Value) (w : World) : Ct Tryz.prog 15 [vi n, v] w (fun r _ _ => r = .tuple [.pointer none, .slice none 0 0, .bool false].toArray) := by
 refine fn_enter Tryz.func15 rfl Tryz.ntmps15 (Nat.le_of_ble_eq_true rfl) fun a hF hS => ?_
 refine wp_seq_k ?_; intro K1 hK1
 refine reg hF hS (sq rfl (q_assign rfl) <|
   sq rfl (q_assign rfl) <|
   sq rfl (q_assign rfl) <|
   sq_end) ?_
 clear hF hS; intro a w hF hS
 refine hK1 _ _ ?_
 clear hK1
 refine wp_seq_k ?_; intro K2 hK2
 refine reg hF hS (sq rfl (q_move rfl) <|
   sq rfl (q_call fn8 rfl (fun w hS => dnewx_ct _ (by omega) w ) (fun _ _ _ h => h)) <|
   sq rfl (q_move rfl) <|
   sq rfl (q_extract rfl rfl) <|
   sq rfl (q_extract rfl rfl) <|
   sq rfl (q_assign rfl) <|
   sq rfl (q_assign rfl) <|
   sq_end) ?_
 clear hF hS; intro a w hF hS
 refine hK2 _ _ ?_
 clear hK2
 refine wp_seq_k ?_; intro K3 hK3
 refine wp_seq_k ?_; intro K4 hK4
 refine reg hF hS (sq rfl (q_move rfl) <|
   sq rfl (q_nt (q_nei rfl rfl) (by simp)) <|
   sq rfl (q_move rfl) <|
   sq_skip 23 rfl rfl rfl rfl <|
   sq_skip 23 rfl rfl rfl rfl <|
   sq rfl (q_pick_t rfl rfl) <|
   sq_end) ?_
 clear hF hS; intro a w hF hS
 refine hK4 _ _ ?_
 clear hK4
 refine wp_if hF rfl (fun _ => ?_) (fun h => absurd h (by simp))
 refine wp_seq_k ?_; intro K5 hK5
 refine reg hF hS (sq rfl (q_assign rfl) <|
   sq rfl (q_assign rfl) <|
   sq rfl (q_assign rfl) <|
   sq_end) ?_
 clear hF hS; intro a w hF hS
 refine hK5 _ _ ?_
 clear hK5
 refine wp_ret ?_
 exact fn_ret (rs := [.tmp 4, .tmp 5, .tmp 6]) rfl hF hS (vs := [_, _, _]) ⟨rfl, rfl, rfl, trivial⟩ zQ zQ (rfl)

set_option maxRecDepth 4000 in
set_option maxHeartbeats 2000000 in
theorem genuine_ct (v u : Value) (im ts : List (List UInt8)) (hil : im.length ≤ 4096) (htl : ts.length ≤ 4097) (w : World) (hb1 : Sl Go.Fw.encS (ph w) v im) (hb2 : Sl Go.Fw.encS (ph w) u ts) {fz0 : Nat × Nat} {bt0 : TypeId} (hg0 : w.heap[0]? = some (.cells (Sha.kc.map vw).toArray bt0 fz0)) : Ct Tryz.prog 18 [v, u] w (fun r _ _ => r = .bool (decide (∀ s ∈ im, Jn.gen1 ts s))) := by
 refine fn_enter Tryz.func18 rfl Tryz.ntmps18 (Nat.le_of_ble_eq_true rfl) fun a hF hS => ?_
 refine wp_seq_k ?_; intro K1 hK1
 refine reg hF hS (sq rfl (q_assign rfl) <|
   sq_end) ?_
 clear hF hS; intro a w hF hS
 refine hK1 _ _ ?_
 clear hK1
 refine wp_seq_k ?_; intro K2 hK2
 refine wp_seq_k ?_; intro K3 hK3
 refine reg hF hS (sq rfl (q_move rfl) <|
   sq rfl (q_len_sl ty22 hb1 rfl) <|
   sq rfl (q_move rfl) <|
   sq_end) ?_
 clear hF hS; intro a w hF hS
 refine hK3 _ _ ?_
 clear hK3
 refine wp_block ?_
 obtain ⟨hs0, hhs0, hS⟩ : ∃ h, h = _ ∧ St _ _ h _ := ⟨_, rfl, hS⟩
 refine wp_loopx (γ := Nat) (0) (fun (j : Nat) => [(12, vi (j : Int))]) [(1, _), (10, _), (11, _)] (fun (j : Nat) => hs0) (fun (j : Nat) => j ≤ im.length ∧ ∀ i, i < j → Jn.gen1 ts (im.getD i [])) (fun (j : Nat) => im.length - j) (hF.sub ⟨rfl, rfl, rfl, rfl, trivial⟩) (by subst hhs0; exact hS) (by exact ⟨Nat.zero_le _, fun i hi => absurd hi (Nat.not_lt_zero _)⟩) ?_
 clear hF hS; rintro j a w hfact hF hS
 subst hhs0; (try dsimp only at hfact); (try dsimp only at hF); (try dsimp only at hS)
 obtain ⟨hj0, hall⟩ := hfact
 replace hS : St _ [] [] _ := hS
 refine wp_seq_k ?_; intro K4 hK4
 refine reg hF hS (sq rfl (q_lti rfl rfl) <|
   sq_end) ?_
 clear hF hS; intro a w hF hS
 refine hK4 _ _ ?_
 clear hK4
 refine wp_seq_k ?_; intro K5 hK5
 refine wp_ifd hF rfl (fun hc1 => ?_) (fun hc1 => ?_)
 ·refine wp_skip ?_
  refine hK5 _ _ ?_
  clear hK5
  refine wp_seq_k ?_; intro K6 hK6
  refine wp_block ?_
  refine wp_seq_k ?_; intro K7 hK7
  refine reg hF hS (sq rfl (q_idx_sl ty22 ty9 hb1 rfl rfl (by omega)) <|
    sq rfl (q_ld_S ty9 hb1 zin0 rfl rfl (by omega)) <|
    sq rfl (q_assign rfl) <|
    sq_end) ?_
  clear hF hS; intro a w hF hS
  refine hK7 _ _ ?_
  clear hK7
  refine wp_seq_k ?_; intro K8 hK8
  refine regl ?_
  refine wpl_sq hF hS (sq rfl (q_move rfl) <|
    sq rfl (q_call fn54 rfl (fun w hS => runpack_ct _ w (hS.ext _ _ hg0)) (fun _ _ _ h => h)) <|
    sq_end) ?_
  clear hF hS; intro a w hF hS
  refine wpl_ef hF hS rfl (ef_allocA ty102) ?_
  clear hF hS; rintro _ _ _ a w ⟨b1, rfl, rfl, rfl⟩ hF hS
  refine wpl_ef hF hS rfl (ef_storeW ty102 0 rfl rfl rfl rfl bQ (oc_cons rfl (oc_cons rfl (oc_cons rfl (oc_cons rfl (oc_cons rfl oc_nil))))) bQ) ?_
  clear hF hS; rintro _ _ _ a w ⟨rfl, rfl, rfl⟩ hF hS
  replace hS : St _ [] [_] _ := hS
  refine wpList_nil ?_
  refine hK8 _ _ ?_
  clear hK8
  refine wp_seq_k ?_; intro K9 hK9
  refine wp_seq_k ?_; intro K10 hK10
  refine reg hF hS (sq rfl (q_fieldAddr ty102 rfl rfl (s' := 0) kQ) <|
    sq rfl (q_ld_blk1 ty4 0 rfl rfl rfl rfl) <|
    sq rfl (q_not rfl) <|
    sq_end) ?_
  clear hF hS; intro a w hF hS
  refine hK10 _ _ ?_
  clear hK10
  refine wp_if hF rfl (fun hc2 => ?_) (fun hc2 => ?_)
  ·refine wp_exit ?_
   refine hK6 _ _ ?_
   clear hK6
   refine reg hF hS (sq rfl (q_addi rfl rfl (by omega)) <|
     sq rfl (q_move rfl) <|
     sq_end) ?_
   clear hF hS; intro a w hF hS
   replace hS := hS.keep zQ zQ
   refine ⟨(j + 1), ?_, ?_, hF.sub ⟨rfl, rfl, rfl, rfl, trivial⟩, ?_⟩
   ·(try dsimp only); omega
   ·refine ⟨by omega, fun i hi => ?_⟩
    rcases Nat.lt_or_ge i j with h9 | h9
    ·exact hall i h9
    ·rw [show i = j by omega]; exact Jn.gen_bad (by rw [Int.toNat_natCast] at hc2; simpa using hc2)
   ·exact hS
  ·have hok : (Jn.unp (im.getD ((j : Int)).toNat [])).ok = true := by simpa using hc2
   have hun := Jn.unp_num hok
   have huo := (Jn.unp_ok (im.getD ((j : Int)).toNat [])).1
   have hup := (Jn.unp_ok (im.getD ((j : Int)).toNat [])).2.1
   have hpl := Jn.pack_len (Jn.unp (im.getD ((j : Int)).toNat [])).n (ts.getD ((Jn.unp (im.getD ((j : Int)).toNat [])).n - 1).toNat [])
   refine wp_skip ?_
   refine hK9 _ _ ?_
   clear hK9
   refine wp_seq_k ?_; intro K11 hK11
   refine wp_seq_k ?_; intro K12 hK12
   refine reg hF hS (sq rfl (q_fieldAddr ty102 rfl rfl (s' := 0) kQ) <|
     sq rfl (q_ld_blk1 ty3 0 rfl rfl rfl rfl) <|
     sq rfl (q_move rfl) <|
     sq rfl (q_len_sl ty22 hb2 rfl) <|
     sq rfl (q_gti rfl rfl) <|
     sq_end) ?_
   clear hF hS; intro a w hF hS
   refine hK12 _ _ ?_
   clear hK12
   refine wp_ifd hF rfl (fun hc3 => ?_) (fun hc3 => ?_)
   ·refine wp_seq_k ?_; intro K13 hK13
    refine reg hF hS (sq rfl (q_assign rfl) <|
      sq_end) ?_
    clear hF hS; intro a w hF hS
    refine hK13 _ _ ?_
    clear hK13
    refine wp_ret ?_
    exact fn_ret (rs := [.tmp 4]) rfl hF hS (vs := [_]) ⟨rfl, trivial⟩ zQ zQ (by rw [Jn.gen_no (j := j) (by omega) (by rw [Int.toNat_natCast] at hok hc3; exact Jn.gen_big hok (by omega))])
   ·refine wp_skip ?_
    refine hK11 _ _ ?_
    clear hK11
    refine wp_seq_k ?_; intro K14 hK14
    revert hS; revert hF; apply regJ (J := J1 (α0 := Value) 57 _ _ _ _ _) #[false, false, false, false, false, false, false, false, false, false, false, false, false, false] 14 mixed rfl rfl
    ·intro w hF hS
     refine goW_take 0 _ rfl kQ rfl hF (hS.keep sQ zQ) (q_fieldAddr ty102 rfl rfl (s' := 0) kQ) ?_
     clear hF; intro a hF
     refine goW_take 1 _ rfl kQ rfl hF (hS.keep sQ sQ) (q_ld_blk1 ty3 0 rfl rfl rfl rfl) ?_
     clear hF; intro a hF
     refine goW_take 2 _ rfl kQ rfl hF (hS.keep sQ zQ) (q_move rfl) ?_
     clear hF; intro a hF
     refine goW_take 3 _ rfl kQ rfl hF (hS.keep sQ zQ) (q_fieldAddr ty102 rfl rfl (s' := 0) kQ) ?_
     clear hF; intro a hF
     refine goW_take 4 _ rfl kQ rfl hF (hS.keep sQ sQ) (q_ld_blk1 ty3 0 rfl rfl rfl rfl) ?_
     clear hF; intro a hF
     refine goW_take 5 _ rfl kQ rfl hF (hS.keep sQ zQ) (q_subi rfl rfl (by omega)) ?_
     clear hF; intro a hF
     refine goW_take 6 _ rfl kQ rfl hF (hS.keep sQ zQ) (q_idx_sl ty22 ty9 hb2 rfl rfl (by omega)) ?_
     clear hF; intro a hF
     refine goW_take 7 _ rfl kQ rfl hF (hS.keep sQ zQ) (q_ld_S ty9 hb2 zin0 rfl rfl (by omega)) ?_
     clear hF; intro a hF
     refine gQ 8 rfl rfl hF hS rfl (ef_call fn60 rfl (fun w hS => rpack_ct _ _ (by first | assumption | omega) w (hS.ext _ _ hg0))) ?_
     clear hF hS; rintro _ _ _ a w ⟨_, _, rfl, rfl, ⟨v_8_8_1, rfl, rfl, rfl⟩⟩ hF hS
     refine ⟨⟨iQ, iQ, .inr hS.k0, .inr (hS.k1 (sQ.n)), .inr hS.k0, .inr hS.k0, iQ, iQ, trivial⟩, ?_⟩
     refine goW_take 9 _ rfl kQ rfl hF (hS.keep sQ zQ) (q_move rfl) ?_
     clear hF; intro a hF
     refine goW_take 10 _ rfl kQ rfl hF (hS.keep sQ zQ) (q_extract rfl rfl) ?_
     clear hF; intro a hF
     refine goW_take 11 _ rfl kQ rfl hF (hS.keep sQ zQ) (q_extract rfl rfl) ?_
     clear hF; intro a hF
     refine goW_take 12 _ rfl kQ rfl hF (hS.keep sQ zQ) (q_assign rfl) ?_
     clear hF; intro a hF
     refine goW_take 13 _ rfl kQ rfl hF (hS.keep sQ zQ) (q_assign rfl) ?_
     clear hF; intro a hF
     exact goW_done kQ (j1_mk v_8_8_1 (trivial) (hF.sub (L' := [(1, _), (6, _), (7, _), (8, _), (9, _), (10, _), (11, _), (12, _)]) ⟨rfl, rfl, rfl, rfl, rfl, rfl, rfl, rfl, trivial⟩) hS)
    rintro a w ⟨v_8_8_1, -, hF, hS⟩
    (try dsimp only at hF); (try dsimp only at hS)
    refine hK14 _ _ ?_
    clear hK14
    refine wp_seq_k ?_; intro K15 hK15
    refine regl ?_
    refine wpl_sq hF hS (sq rfl (q_move rfl) <|
      sq rfl (q_nei rfl rfl) <|
      sq rfl (q_move rfl) <|
      sq_end) ?_
    clear hF hS; intro a w hF hS
    refine wpl_or 2 40 5 hF hS rfl rfl rfl rfl rfl (fun hg => have hg := (nd_false hg); sq_go 40 rfl rfl rfl (q_fieldAddr ty102 rfl rfl (s' := 0) kQ) <|
      sq_go 40 rfl rfl rfl (q_ld_blk1 ty3 1 rfl rfl rfl rfl) <|
      sq_go 40 rfl rfl rfl (q_move rfl) <|
      sq_go 40 rfl rfl rfl (q_len_row ty22 0 rfl rfl) <|
      sq_go 40 rfl rfl rfl (q_gei rfl rfl) <|
      sq_end) rfl rfl ?_
    clear hF hS; intro a w hF hS
    refine wpl_sq hF hS (sq rfl (q_move rfl) <|
      sq_end) ?_
    clear hF hS; intro a w hF hS
    refine wpl_or 9 47 7 hF hS rfl rfl rfl rfl rfl (fun hg => have hg := (by simp only [Bool.or_eq_true, Bool.and_eq_true, Bool.or_eq_false_iff, Bool.and_eq_false_iff, decide_eq_true_eq, decide_eq_false_iff_not, Bool.not_eq_true', Bool.not_eq_false', Bool.not_eq_true, Bool.not_eq_false] at hg; exact hg); sq_go 47 rfl rfl rfl (q_move rfl) <|
      sq_go 47 rfl rfl rfl (q_fieldAddr ty102 rfl rfl (s' := 0) kQ) <|
      sq_go 47 rfl rfl rfl (q_ld_blk1 ty3 1 rfl rfl rfl rfl) <|
      sq_go 47 rfl rfl rfl (q_idx_row ty22 ty9 0 rfl rfl rfl (by omega)) <|
      sq_go 47 rfl rfl rfl (q_ld_rowM ty9 0 default rfl rfl bQ rfl) <|
      sq_go 47 rfl rfl rfl (q_move rfl) <|
      sq_go 47 rfl rfl rfl (q_nes rfl rfl) <|
      sq_end) rfl rfl ?_
    clear hF hS; intro a w hF hS
    refine wpList_nil ?_
    refine hK15 _ _ ?_
    clear hK15
    refine wp_if hF rfl (fun hc4 => ?_) (fun hc4 => ?_)
    ·(try simp only [Bool.or_eq_true, Bool.and_eq_true, Bool.or_eq_false_iff, Bool.and_eq_false_iff, decide_eq_true_eq, decide_eq_false_iff_not, Bool.not_eq_true', Bool.not_eq_false'] at hc4)
     refine wp_seq_k ?_; intro K16 hK16
     refine reg hF hS (sq rfl (q_assign rfl) <|
       sq_end) ?_
     clear hF hS; intro a w hF hS
     refine hK16 _ _ ?_
     clear hK16
     refine wp_ret ?_
     exact fn_ret (rs := [.tmp 4]) rfl hF hS (vs := [_]) ⟨rfl, trivial⟩ zQ zQ (by rw [Jn.gen_no (j := j) (by omega) (by rw [Int.toNat_natCast] at hok hc4; intro hq; obtain ⟨_, h1, h2, h3⟩ := hq hok; rcases hc4 with (h9 | h9) | h9; exact h9 h1; omega; exact h9 h3)])
    ·(try simp only [Bool.or_eq_true, Bool.and_eq_true, Bool.or_eq_false_iff, Bool.and_eq_false_iff, decide_eq_true_eq, decide_eq_false_iff_not, Bool.not_eq_true', Bool.not_eq_false'] at hc4)
     refine wp_skip ?_
     refine hK6 _ _ ?_
     clear hK6
     refine reg hF hS (sq rfl (q_addi rfl rfl (by omega)) <|
       sq rfl (q_move rfl) <|
       sq_end) ?_
     clear hF hS; intro a w hF hS
     replace hS := hS.keep zQ zQ
     refine ⟨(j + 1), ?_, ?_, hF.sub ⟨rfl, rfl, rfl, rfl, trivial⟩, ?_⟩
     ·(try dsimp only); omega
     ·refine ⟨by omega, fun i hi => ?_⟩
      rcases Nat.lt_or_ge i j with h9 | h9
      ·exact hall i h9
      ·rw [show i = j by omega]; rw [Int.toNat_natCast] at hc3 hc4; exact fun _ => ⟨by omega, by omega, by omega, by have := hc4.2; first | exact this | exact Decidable.not_not.1 this⟩
     ·exact hS
 ·refine wp_exit ?_
  refine hK2 _ _ ?_
  clear hK2
  refine wp_seq_k ?_; intro K17 hK17
  refine reg hF hS (sq rfl (q_assign rfl) <|
    sq_end) ?_
  clear hF hS; intro a w hF hS
  refine hK17 _ _ ?_
  clear hK17
  refine wp_ret ?_
  exact fn_ret (rs := [.tmp 4]) rfl hF hS (vs := [_]) ⟨rfl, trivial⟩ zQ zQ (by rw [Jn.gen_yes (fun i hi => hall i (by omega))])
end Go.Proofs.YtibbhobfdbfkkaaGreatDoor
