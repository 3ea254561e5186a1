/- A text of a proof over this seat: walks over the program's functions and the plain laws that they need. -/
import Derived.Test.YtngcjojijaknnaaGreatDoorLl5
import Derived.Test.YtngcjojijaknnaaGreatDoorLgA
import Derived.Test.YtngcjojijaknnaaGreatDoorFwB
set_option linter.all false
namespace Go.Proofs.YtngcjojijaknnaaGreatDoor
open Go.Fw
theorem ty97 : Tf Tryz.prog 97 (.pointer 172) 1 8 (Value.pointer none) := ⟨Tryz.underlying97, by kernel_rfl⟩
theorem fn16 : FnOk Tryz.prog 16 := ⟨_, Tryz.func16, rfl, by kernel_rfl⟩
theorem fn33 : FnOk Tryz.prog 33 := ⟨_, Tryz.func33, rfl, by kernel_rfl⟩
theorem fn72 : FnOk Tryz.prog 72 := ⟨_, Tryz.func72, rfl, by kernel_rfl⟩

attribute [local irreducible] Wi.int Wi.bytes Wi.getInt Wi.getBytes Sha.sum Jn.good Jn.hd Jn.lb Jn.cnt Jn.unp Jn.recd Jn.app Jn.opn Lg.dec Lg.enc

abbrev LB (bl b : Nat) (fv : Value) : Res := .blk bl 119 [.pointer (some ⟨b, 0, none⟩), fv]
abbrev LW (fv : Value) (l : List Lg.Fct) : Res := .row fv 24 3 l.length (l.flatMap Lg.fcC)

set_option maxRecDepth 4000 in
set_option maxHeartbeats 2000000 in
theorem ladd_ct (h : Dk.Hd) (bl b : Nat) (M : Lg.Ld) (f : Lg.Fct) (hf : Lg.FcOk f) (hfl : f.ky.length ≤ 1048576 ∧ f.vl.length ≤ 1048576) (w0 : World) (zsr : List PH) {fv : Value} {q1 q2 q3 q4 d1 d2 d3 d4 : Res} {fz0 : Nat × Nat} {bt0 : TypeId} (hg0 : w0.heap[1]? = some (.cells (Sha.kc.map vw).toArray bt0 fz0)) (hG : Lg.Good M.F) (hJ : JJ b h.b M.J q1 q2 q3 q4) (hD : DD h M.S d1 d2 d3 d4) : Cx Tryz.prog 36 [.pointer (some ⟨bl, 0, none⟩), .agg [vi f.tk, vs f.ky, vs f.vl].toArray] w0 zsr [.blk bl 119 [.pointer (some ⟨b, 0, none⟩), fv], .row fv 24 3 M.F.length (M.F.flatMap Lg.fcC), q1, q2, q3, q4, d1, d2, d3, d4] (Lg.LDR (LB bl b) LW (JJ b h.b) (DD h) (Lg.add M f).1 (vi (Lg.add M f).2)) := by
 refine fn_enterx Tryz.func36 rfl Tryz.ntmps36 (Nat.le_of_ble_eq_true rfl) fun hsr a w hF hS => ?_
 replace hS : St _ (_) (_ :: _ :: _ :: _ :: _ :: _ :: _ :: _ :: _ :: _ :: _) _ := hS
 have hgl := hG.len
 refine wp_seq_k ?_; intro K1 hK1
 refine regl ?_
 refine wpl_ef hF hS rfl (ef_boxA rfl) ?_
 clear hF hS; rintro _ _ _ a w ⟨b1, rfl, rfl, rfl⟩ hF hS
 refine wpl_sq hF hS (sq rfl (q_assign rfl) <|
   sq_end) ?_
 clear hF hS; intro a w hF hS
 refine wpList_nil ?_
 refine hK1 _ _ ?_
 clear hK1
 refine wp_seq_k ?_; intro K2 hK2
 refine wp_seq_k ?_; intro K3 hK3
 refine reg hF hS (sq rfl (q_move rfl) <|
   sq rfl (q_eqpn_f ty45 rfl rfl) <|
   sq_end) ?_
 clear hF hS; intro a w hF hS
 refine hK3 _ _ ?_
 clear hK3
 refine wp_if hF rfl (fun h => absurd h (by simp)) (fun _ => ?_)
 refine wp_skip ?_
 refine hK2 _ _ ?_
 clear hK2
 refine wp_seq_k ?_; intro K4 hK4
 refine wp_seq_k ?_; intro K5 hK5
 refine reg hF hS (sq rfl (q_ld_blkW ty24 0 rfl rfl bQ rfl) <|
   sq rfl (q_call fn13 rfl (fun w hS => fval_ct f hf w ) (fun _ _ _ h => h)) <|
   sq rfl (q_assign rfl) <|
   sq_end) ?_
 clear hF hS; intro a w hF hS
 refine hK5 _ _ ?_
 clear hK5
 refine wp_seq_k ?_; intro K6 hK6
 refine reg hF hS (sq rfl (q_move rfl) <|
   sq rfl (q_nei rfl rfl) <|
   sq_end) ?_
 clear hF hS; intro a w hF hS
 refine hK6 _ _ ?_
 clear hK6
 refine wp_ifn hF rfl (fun hc2 => ?_) (fun hc2 => ?_)
 ·refine wp_seq_k ?_; intro K7 hK7
  refine reg hF hS (sq rfl (q_move rfl) <|
    sq rfl (q_assign rfl) <|
    sq_end) ?_
  clear hF hS; intro a w hF hS
  refine hK7 _ _ ?_
  clear hK7
  refine wp_ret ?_
  replace hS := hS.perm (.swap _ _ _)
  replace hS := hS.perm (.cons _ (.swap _ _ _))
  replace hS := hS.perm (.cons _ (.cons _ (.swap _ _ _)))
  replace hS := hS.perm (.cons _ (.cons _ (.cons _ (.swap _ _ _))))
  replace hS := hS.perm (.cons _ (.cons _ (.cons _ (.cons _ (.swap _ _ _)))))
  replace hS := hS.perm (.cons _ (.cons _ (.cons _ (.cons _ (.cons _ (.swap _ _ _))))))
  replace hS := hS.perm (.cons _ (.cons _ (.cons _ (.cons _ (.cons _ (.cons _ (.swap _ _ _)))))))
  replace hS := hS.perm (.cons _ (.cons _ (.cons _ (.cons _ (.cons _ (.cons _ (.cons _ (.swap _ _ _))))))))
  replace hS := hS.perm (.cons _ (.cons _ (.cons _ (.cons _ (.cons _ (.cons _ (.cons _ (.cons _ (.swap _ _ _)))))))))
  replace hS := hS.perm (.cons _ (.cons _ (.cons _ (.cons _ (.cons _ (.cons _ (.cons _ (.cons _ (.cons _ (.swap _ _ _))))))))))
  exact fn_retx (rs := [.tmp 4]) rfl hF hS (vs := [_]) ⟨rfl, trivial⟩ [] [_, _, _, _, _, _, _, _, _, _] sQ (sQ.n.k.k.k.k.k.k.k.k.k.k) (Lg.ldr_of (L := M) ⟨rfl, rfl, _, _, _, _, _, _, _, _, _, rfl, hJ, hD⟩ (by rw [Lg.add_1 hc2]) (by rw [Lg.add_1 hc2]))
 ·refine wp_skip ?_
  refine hK4 _ _ ?_
  clear hK4
  refine wp_seq_k ?_; intro K8 hK8
  refine wp_seq_k ?_; intro K9 hK9
  refine regd mixed kQ hF hS (sq rfl (q_fieldAddr ty24 rfl rfl (s' := 0) kQ) <|
    sq rfl (q_ld_blk1 ty3 0 rfl rfl rfl rfl) <|
    sq rfl (q_move rfl) <|
    sq rfl (q_call fn33 rfl (fun w hS => clock_ct _ _ _ _ w (own_box hS 1 rfl) (own_slK (hl := Lg.fcC_len) (h1 := Lg.fcC_one) (hS.own _ (List.mem_of_getElem? (i := 2) rfl)).1 rfl (by first | omega | (simp; done)) (Lg.good_fc hG))) (fun _ _ _ h => h)) <|
    sq rfl (q_lti rfl rfl) <|
    sq_end) ?_
  clear hF hS; intro a w hF hS
  refine hK9 _ _ ?_
  clear hK9
  refine wp_ifd hF rfl (fun hc3 => ?_) (fun hc3 => ?_)
  ·refine wp_seq_k ?_; intro K10 hK10
   refine reg hF hS (sq rfl (q_assign rfl) <|
     sq_end) ?_
   clear hF hS; intro a w hF hS
   refine hK10 _ _ ?_
   clear hK10
   refine wp_ret ?_
   replace hS := hS.perm (.swap _ _ _)
   replace hS := hS.perm (.cons _ (.swap _ _ _))
   replace hS := hS.perm (.cons _ (.cons _ (.swap _ _ _)))
   replace hS := hS.perm (.cons _ (.cons _ (.cons _ (.swap _ _ _))))
   replace hS := hS.perm (.cons _ (.cons _ (.cons _ (.cons _ (.swap _ _ _)))))
   replace hS := hS.perm (.cons _ (.cons _ (.cons _ (.cons _ (.cons _ (.swap _ _ _))))))
   replace hS := hS.perm (.cons _ (.cons _ (.cons _ (.cons _ (.cons _ (.cons _ (.swap _ _ _)))))))
   replace hS := hS.perm (.cons _ (.cons _ (.cons _ (.cons _ (.cons _ (.cons _ (.cons _ (.swap _ _ _))))))))
   replace hS := hS.perm (.cons _ (.cons _ (.cons _ (.cons _ (.cons _ (.cons _ (.cons _ (.cons _ (.swap _ _ _)))))))))
   replace hS := hS.perm (.cons _ (.cons _ (.cons _ (.cons _ (.cons _ (.cons _ (.cons _ (.cons _ (.cons _ (.swap _ _ _))))))))))
   exact fn_retx (rs := [.tmp 4]) rfl hF hS (vs := [_]) ⟨rfl, trivial⟩ [] [_, _, _, _, _, _, _, _, _, _] sQ (sQ.n.k.k.k.k.k.k.k.k.k.k) (Lg.ldr_of (L := M) ⟨rfl, rfl, _, _, _, _, _, _, _, _, _, rfl, hJ, hD⟩ (by rw [Lg.add_2 hc2 hc3]) (by rw [Lg.add_2 hc2 hc3]))
  ·refine wp_skip ?_
   refine hK8 _ _ ?_
   clear hK8
   refine wp_seq_k ?_; intro K11 hK11
   refine wp_seq_k ?_; intro K12 hK12
   refine reg hF hS (sq rfl (q_move rfl) <|
     sq rfl (q_nilCheck rfl) <|
     sq rfl (q_fieldAddr ty119 rfl rfl (s' := 0) kQ) <|
     sq rfl (q_ld_blk1 ty26 1 rfl rfl rfl rfl) <|
     sq rfl (q_len_row ty26 2 rfl rfl) <|
     sq rfl (q_gei rfl rfl) <|
     sq_end) ?_
   clear hF hS; intro a w hF hS
   refine hK12 _ _ ?_
   clear hK12
   refine wp_ifd hF rfl (fun hc4 => ?_) (fun hc4 => ?_)
   ·refine wp_seq_k ?_; intro K13 hK13
    refine reg hF hS (sq rfl (q_assign rfl) <|
      sq_end) ?_
    clear hF hS; intro a w hF hS
    refine hK13 _ _ ?_
    clear hK13
    refine wp_ret ?_
    replace hS := hS.perm (.swap _ _ _)
    replace hS := hS.perm (.cons _ (.swap _ _ _))
    replace hS := hS.perm (.cons _ (.cons _ (.swap _ _ _)))
    replace hS := hS.perm (.cons _ (.cons _ (.cons _ (.swap _ _ _))))
    replace hS := hS.perm (.cons _ (.cons _ (.cons _ (.cons _ (.swap _ _ _)))))
    replace hS := hS.perm (.cons _ (.cons _ (.cons _ (.cons _ (.cons _ (.swap _ _ _))))))
    replace hS := hS.perm (.cons _ (.cons _ (.cons _ (.cons _ (.cons _ (.cons _ (.swap _ _ _)))))))
    replace hS := hS.perm (.cons _ (.cons _ (.cons _ (.cons _ (.cons _ (.cons _ (.cons _ (.swap _ _ _))))))))
    replace hS := hS.perm (.cons _ (.cons _ (.cons _ (.cons _ (.cons _ (.cons _ (.cons _ (.cons _ (.swap _ _ _)))))))))
    replace hS := hS.perm (.cons _ (.cons _ (.cons _ (.cons _ (.cons _ (.cons _ (.cons _ (.cons _ (.cons _ (.swap _ _ _))))))))))
    exact fn_retx (rs := [.tmp 4]) rfl hF hS (vs := [_]) ⟨rfl, trivial⟩ [] [_, _, _, _, _, _, _, _, _, _] sQ (sQ.n.k.k.k.k.k.k.k.k.k.k) (Lg.ldr_of (L := M) ⟨rfl, rfl, _, _, _, _, _, _, _, _, _, rfl, hJ, hD⟩ (by rw [Lg.add_3 hc2 hc3 (by omega)]) (by rw [Lg.add_3 hc2 hc3 (by omega)]))
   ·refine wp_skip ?_
    refine hK11 _ _ ?_
    clear hK11
    refine wp_seq_k ?_; intro K14 hK14
    refine wp_seq_k ?_; intro K15 hK15
    revert hS; revert hF; apply regJ (J := J9 (α0 := Value) (α1 := Res) (α2 := Res) (α3 := Res) (α4 := Res) (α5 := Res) (α6 := Res) (α7 := Res) (α8 := Res) 50 _ _ _ _ _) #[false, false, false, false, false, false, false, false, false, false, false, false, false] 13 mixed rfl rfl
    ·intro w hF hS
     refine goW_take 0 _ rfl kQ rfl hF (hS.keep sQ (sQ.n.n.n.n.n.n.n.n.n.n.n)) (q_move rfl) ?_
     clear hF; intro a hF
     refine goW_take 1 _ rfl kQ rfl hF (hS.keep sQ (sQ.n.n.n.n.n.n.n.n.n.n.n)) (q_nilCheck rfl) ?_
     clear hF; intro a hF
     refine goW_take 2 _ rfl kQ rfl hF (hS.keep sQ (sQ.n.n.n.n.n.n.n.n.n.n.n)) (q_fieldAddr ty119 rfl rfl (s' := 0) kQ) ?_
     clear hF; intro a hF
     refine goW_take 3 _ rfl kQ rfl hF (hS.keep sQ (sQ.n.n.n.n.n.n.n.n.n.k.n)) (q_ld_blk1 ty97 0 rfl rfl rfl rfl) ?_
     clear hF; intro a hF
     refine goW_take 4 _ rfl kQ rfl hF (hS.keep sQ (sQ.n.n.n.n.n.n.n.n.n.n.k)) (q_ld_blkW ty24 0 rfl rfl bQ rfl) ?_
     clear hF; intro a hF
     refine gQ 5 rfl rfl hF hS rfl (ef_call fn16 rfl (fun w hS => enc_ct f hf hfl w )) ?_
     clear hF hS; rintro v_10_5 _ _ a w ⟨_, _, rfl, rfl, rfl, rfl⟩ hF hS
     replace hS : St _ (_) (_ :: _ :: _ :: _ :: _ :: _ :: _ :: _ :: _ :: _ :: _ :: _ :: _) _ := hS
     refine ⟨⟨iQ, .inr (hS.keep sQ (sQ.n.n.n.n.n.n.n.n.n.k.n.n)), .inr (hS.keep sQ (sQ.n.n.n.n.n.n.n.n.n.n.n.n)), .inr (hS.keep sQ (sQ.n.n.n.n.n.n.n.n.n.n.n.n)), .inr (hS.keep sQ (sQ.n.n.n.n.n.n.n.n.n.n.n.n)), trivial⟩, ?_⟩
     refine goW_take 6 _ rfl kQ rfl hF (hS.keep sQ (sQ.n.n.n.n.n.n.n.n.n.n.n.k)) (q_b2s_row ty25 ty9 ty5 0 rfl rfl) ?_
     clear hF; intro a hF
     refine goW_fork [7] kQ rfl ⟨?_, trivial⟩
     replace hS := hS.perm (.cons _ (.cons _ (.cons _ (.swap _ _ _))))
     replace hS := hS.perm (.cons _ (.cons _ (.swap _ _ _)))
     replace hS := hS.perm (.cons _ (.swap _ _ _))
     replace hS := hS.perm (.swap _ _ _)
     replace hS := hS.perm (.cons _ (.cons _ (.cons _ (.cons _ (.swap _ _ _)))))
     replace hS := hS.perm (.cons _ (.cons _ (.cons _ (.swap _ _ _))))
     replace hS := hS.perm (.cons _ (.cons _ (.swap _ _ _)))
     replace hS := hS.perm (.cons _ (.swap _ _ _))
     replace hS := hS.perm (.cons _ (.cons _ (.cons _ (.cons _ (.cons _ (.swap _ _ _))))))
     replace hS := hS.perm (.cons _ (.cons _ (.cons _ (.cons _ (.swap _ _ _)))))
     replace hS := hS.perm (.cons _ (.cons _ (.cons _ (.swap _ _ _))))
     replace hS := hS.perm (.cons _ (.cons _ (.swap _ _ _)))
     replace hS := hS.perm (.cons _ (.cons _ (.cons _ (.cons _ (.cons _ (.cons _ (.swap _ _ _)))))))
     replace hS := hS.perm (.cons _ (.cons _ (.cons _ (.cons _ (.cons _ (.swap _ _ _))))))
     replace hS := hS.perm (.cons _ (.cons _ (.cons _ (.cons _ (.swap _ _ _)))))
     replace hS := hS.perm (.cons _ (.cons _ (.cons _ (.swap _ _ _))))
     replace hS := hS.perm (.cons _ (.cons _ (.cons _ (.cons _ (.cons _ (.cons _ (.cons _ (.swap _ _ _))))))))
     replace hS := hS.perm (.cons _ (.cons _ (.cons _ (.cons _ (.cons _ (.cons _ (.swap _ _ _)))))))
     replace hS := hS.perm (.cons _ (.cons _ (.cons _ (.cons _ (.cons _ (.swap _ _ _))))))
     replace hS := hS.perm (.cons _ (.cons _ (.cons _ (.cons _ (.swap _ _ _)))))
     replace hS := hS.perm (.cons _ (.cons _ (.cons _ (.cons _ (.cons _ (.cons _ (.cons _ (.cons _ (.swap _ _ _)))))))))
     replace hS := hS.perm (.cons _ (.cons _ (.cons _ (.cons _ (.cons _ (.cons _ (.cons _ (.swap _ _ _))))))))
     replace hS := hS.perm (.cons _ (.cons _ (.cons _ (.cons _ (.cons _ (.cons _ (.swap _ _ _)))))))
     replace hS := hS.perm (.cons _ (.cons _ (.cons _ (.cons _ (.cons _ (.swap _ _ _))))))
     replace hS := hS.perm (.cons _ (.cons _ (.cons _ (.cons _ (.cons _ (.cons _ (.cons _ (.cons _ (.cons _ (.swap _ _ _))))))))))
     replace hS := hS.perm (.cons _ (.cons _ (.cons _ (.cons _ (.cons _ (.cons _ (.cons _ (.cons _ (.swap _ _ _)))))))))
     replace hS := hS.perm (.cons _ (.cons _ (.cons _ (.cons _ (.cons _ (.cons _ (.cons _ (.swap _ _ _))))))))
     replace hS := hS.perm (.cons _ (.cons _ (.cons _ (.cons _ (.cons _ (.cons _ (.swap _ _ _)))))))
     replace hS := hS.perm (.cons _ (.cons _ (.cons _ (.cons _ (.cons _ (.cons _ (.cons _ (.cons _ (.cons _ (.cons _ (.swap _ _ _)))))))))))
     replace hS := hS.perm (.cons _ (.cons _ (.cons _ (.cons _ (.cons _ (.cons _ (.cons _ (.cons _ (.cons _ (.swap _ _ _))))))))))
     replace hS := hS.perm (.cons _ (.cons _ (.cons _ (.cons _ (.cons _ (.cons _ (.cons _ (.cons _ (.swap _ _ _)))))))))
     replace hS := hS.perm (.cons _ (.cons _ (.cons _ (.cons _ (.cons _ (.cons _ (.cons _ (.swap _ _ _))))))))
     replace hS : St _ (_) (_ :: _ :: _ :: _ :: _ :: _ :: _ :: _ :: _ :: _ :: _ :: _ :: _) _ := hS
     refine stepW_ef _ rfl rfl hF hS rfl (ef_callx fn72 rfl (List.Perm.refl _) (by exact (jappend_ct _ _ _ _ _ _ _ hg0 hJ hD))) ?_
     clear hF hS; rintro _ _ _ a w ⟨_, _, rfl, rfl, ⟨rfl, rfl, qa_10_7, qb_10_7, qc_10_7, qd_10_7, ua_10_7, ub_10_7, uc_10_7, ud_10_7, rfl, hJ_10_7, hD_10_7⟩⟩ hF hS
     replace hS : St _ (_) (_ :: _ :: _ :: _ :: _ :: _ :: _ :: _ :: _ :: _ :: _ :: _ :: _) _ := hS
     refine ⟨⟨iQ, iQ, iQ, iQ, .inr (hS.keep sQ (sQ.n.n.n.n.n.n.n.n.n.n.n.n)), .inr (hS.keep sQ (sQ.n.n.n.n.n.n.n.n.n.n.n.n)), trivial⟩, ?_⟩
     refine goW_take 8 _ rfl kQ rfl hF (hS.keep sQ (sQ.n.n.n.n.n.n.n.n.n.n.n.n)) (q_move rfl) ?_
     clear hF; intro a hF
     refine goW_take 9 _ rfl kQ rfl hF (hS.keep sQ (sQ.n.n.n.n.n.n.n.n.n.n.n.n)) (q_extract rfl rfl) ?_
     clear hF; intro a hF
     refine goW_take 10 _ rfl kQ rfl hF (hS.keep sQ (sQ.n.n.n.n.n.n.n.n.n.n.n.n)) (q_extract rfl rfl) ?_
     clear hF; intro a hF
     refine goW_take 11 _ rfl kQ rfl hF (hS.keep sQ (sQ.n.n.n.n.n.n.n.n.n.n.n.n)) (q_assign rfl) ?_
     clear hF; intro a hF
     refine goW_take 12 _ rfl kQ rfl hF (hS.keep sQ (sQ.n.n.n.n.n.n.n.n.n.n.n.n)) (q_assign rfl) ?_
     clear hF; intro a hF
     exact goW_done kQ (j9_mk v_10_5 qa_10_7 qb_10_7 qc_10_7 qd_10_7 ua_10_7 ub_10_7 uc_10_7 ud_10_7 ((And.intro hJ_10_7 (And.intro hD_10_7 trivial))) (hF.sub (L' := [(0, _), (3, _), (7, _)]) ⟨rfl, rfl, rfl, trivial⟩) hS)
    rintro a w ⟨v_10_5, qa_10_7, qb_10_7, qc_10_7, qd_10_7, ua_10_7, ub_10_7, uc_10_7, ud_10_7, ⟨hJ_10_7, hD_10_7, -⟩, hF, hS⟩
    (try dsimp only at hF); (try dsimp only at hS)
    refine hK15 _ _ ?_
    clear hK15
    refine wp_seq_k ?_; intro K16 hK16
    refine reg hF hS (sq rfl (q_move rfl) <|
      sq rfl (q_nei rfl rfl) <|
      sq_end) ?_
    clear hF hS; intro a w hF hS
    refine hK16 _ _ ?_
    clear hK16
    refine wp_ifn hF rfl (fun hc5 => ?_) (fun hc5 => ?_)
    ·refine wp_seq_k ?_; intro K17 hK17
     refine reg hF hS (sq rfl (q_move rfl) <|
       sq rfl (q_assign rfl) <|
       sq_end) ?_
     clear hF hS; intro a w hF hS
     refine hK17 _ _ ?_
     clear hK17
     refine wp_ret ?_
     replace hS := hS.perm (.cons _ (.cons _ (.cons _ (.cons _ (.cons _ (.cons _ (.cons _ (.cons _ (.cons _ (.swap _ _ _))))))))))
     replace hS := hS.perm (.cons _ (.cons _ (.cons _ (.cons _ (.cons _ (.cons _ (.cons _ (.cons _ (.swap _ _ _)))))))))
     replace hS := hS.perm (.cons _ (.cons _ (.cons _ (.cons _ (.cons _ (.cons _ (.cons _ (.swap _ _ _))))))))
     replace hS := hS.perm (.cons _ (.cons _ (.cons _ (.cons _ (.cons _ (.cons _ (.swap _ _ _)))))))
     replace hS := hS.perm (.cons _ (.cons _ (.cons _ (.cons _ (.cons _ (.swap _ _ _))))))
     replace hS := hS.perm (.cons _ (.cons _ (.cons _ (.cons _ (.swap _ _ _)))))
     replace hS := hS.perm (.cons _ (.cons _ (.cons _ (.swap _ _ _))))
     replace hS := hS.perm (.cons _ (.cons _ (.swap _ _ _)))
     replace hS := hS.perm (.cons _ (.swap _ _ _))
     replace hS := hS.perm (.swap _ _ _)
     replace hS := hS.perm (.cons _ (.cons _ (.cons _ (.cons _ (.cons _ (.cons _ (.cons _ (.cons _ (.cons _ (.cons _ (.swap _ _ _)))))))))))
     replace hS := hS.perm (.cons _ (.cons _ (.cons _ (.cons _ (.cons _ (.cons _ (.cons _ (.cons _ (.cons _ (.swap _ _ _))))))))))
     replace hS := hS.perm (.cons _ (.cons _ (.cons _ (.cons _ (.cons _ (.cons _ (.cons _ (.cons _ (.swap _ _ _)))))))))
     replace hS := hS.perm (.cons _ (.cons _ (.cons _ (.cons _ (.cons _ (.cons _ (.cons _ (.swap _ _ _))))))))
     replace hS := hS.perm (.cons _ (.cons _ (.cons _ (.cons _ (.cons _ (.cons _ (.swap _ _ _)))))))
     replace hS := hS.perm (.cons _ (.cons _ (.cons _ (.cons _ (.cons _ (.swap _ _ _))))))
     replace hS := hS.perm (.cons _ (.cons _ (.cons _ (.cons _ (.swap _ _ _)))))
     replace hS := hS.perm (.cons _ (.cons _ (.cons _ (.swap _ _ _))))
     replace hS := hS.perm (.cons _ (.cons _ (.swap _ _ _)))
     replace hS := hS.perm (.cons _ (.swap _ _ _))
     exact fn_retx (rs := [.tmp 4]) rfl hF hS (vs := [_]) ⟨rfl, trivial⟩ [] [_, _, _, _, _, _, _, _, _, _] sQ (sQ.n.n.k.k.k.k.k.k.k.k.k.k) (Lg.ldr_of (L := ⟨(Jn.app M.J M.S (Lg.enc f)).1, (Jn.app M.J M.S (Lg.enc f)).2.1, M.F⟩) ⟨rfl, rfl, _, _, _, _, _, _, _, _, _, rfl, hJ_10_7, hD_10_7⟩ (by rw [Lg.add_4 hc2 hc3 (by omega) hc5]) (by rw [Lg.add_4 hc2 hc3 (by omega) hc5]))
    ·refine wp_skip ?_
     refine hK14 _ _ ?_
     clear hK14
     refine wp_seq_k ?_; intro K18 hK18
     revert hS; revert hF; apply regJ (J := J2 (α0 := Value) (α1 := Value) 50 _ _ _ _ _) #[false, false, false, false, false, false, false, false, false, false, false] 11 mixed rfl rfl
     ·intro w hF hS
      refine goW_take 0 _ rfl kQ rfl hF (hS.keep sQ (sQ.n.n.n.n.n.n.n.n.n.n.n.n)) (q_move rfl) ?_
      clear hF; intro a hF
      refine goW_take 1 _ rfl kQ rfl hF (hS.keep sQ (sQ.n.n.n.n.n.n.n.n.n.n.n.n)) (q_move rfl) ?_
      clear hF; intro a hF
      refine goW_take 2 _ rfl kQ rfl hF (hS.keep sQ (sQ.n.n.n.n.n.n.n.n.n.n.n.n)) (q_nilCheck rfl) ?_
      clear hF; intro a hF
      refine goW_take 3 _ rfl kQ rfl hF (hS.keep sQ (sQ.n.n.n.n.n.n.n.n.n.n.n.n)) (q_fieldAddr ty119 rfl rfl (s' := 0) kQ) ?_
      clear hF; intro a hF
      refine goW_take 4 _ rfl kQ rfl hF (hS.keep sQ (sQ.n.k.n.n.n.n.n.n.n.n.n.n)) (q_ld_blk1 ty26 0 rfl rfl rfl rfl) ?_
      clear hF; intro a hF
      refine goW_take 5 _ rfl kQ rfl hF (hS.keep sQ (sQ.n.n.k.n.n.n.n.n.n.n.n.n)) (q_ld_blkW ty24 0 rfl rfl bQ rfl) ?_
      clear hF; intro a hF
      refine gQ 6 rfl rfl hF hS rfl (ef_bsliceW ty26 ty24 rfl bQ (by decide) oQ (by decide) (by decide)) ?_
      clear hF hS; rintro v_13_6 _ _ a w ⟨rfl, rfl⟩ hF hS
      replace hS : St _ (_) (_ :: _ :: _ :: _ :: _ :: _ :: _ :: _ :: _ :: _ :: _ :: _ :: _ :: _) _ := hS
      refine ⟨⟨iQ, .inr (hS.keep sQ (sQ.n.k.n.n.n.n.n.n.n.n.n.n.n)), .inr (hS.keep sQ (sQ.n.n.n.n.n.n.n.n.n.n.n.n.n)), .inr (hS.keep sQ (sQ.n.n.n.n.n.n.n.n.n.n.n.n.n)), .inr (hS.keep sQ (sQ.n.n.n.n.n.n.n.n.n.n.n.n.n)), .inr (hS.keep sQ (sQ.n.n.n.n.n.n.n.n.n.n.n.n.n)), trivial⟩, ?_⟩
      refine gQ 7 rfl rfl hF hS rfl (ef_append ty26 ty24 12 rfl rfl rfl (src_row ty26 (k := 0) rfl oQ) bQ rfl (by decide)) ?_
      clear hF hS; rintro v_13_7 _ _ a w ⟨rfl, rfl⟩ hF hS
      replace hS : St _ (_) (_ :: _ :: _ :: _ :: _ :: _ :: _ :: _ :: _ :: _ :: _ :: _ :: _ :: _) _ := hS
      refine ⟨⟨iQ, iQ, iQ, .inr (hS.keep sQ (sQ.n.n.n.n.n.n.n.n.n.n.n.n.n)), .inr (hS.keep sQ (sQ.n.n.n.n.n.n.n.n.n.n.n.n.n)), .inr (hS.keep sQ (sQ.n.n.n.n.n.n.n.n.n.n.n.n.n)), trivial⟩, ?_⟩
      refine goW_take 8 _ rfl kQ rfl hF (hS.keep sQ (sQ.n.n.n.n.n.n.n.n.n.n.n.n.n)) (q_nilCheck rfl) ?_
      clear hF; intro a hF
      refine goW_take 9 _ rfl kQ rfl hF (hS.keep sQ (sQ.n.n.n.n.n.n.n.n.n.n.n.n.n)) (q_fieldAddr ty119 rfl rfl (s' := 0) kQ) ?_
      clear hF; intro a hF
      refine gQ 10 rfl rfl hF hS rfl (ef_store1 ty26 11 rfl rfl rfl (row_one (hS.own _ (List.mem_of_getElem? (i := 12) rfl)).1) (by simp)) ?_
      clear hF hS; rintro _ _ _ a w ⟨rfl, rfl, rfl⟩ hF hS
      replace hS : St _ (_) (_ :: _ :: _ :: _ :: _ :: _ :: _ :: _ :: _ :: _ :: _ :: .blk _ _ ([_, _].set 1 _) :: _ :: _) _ := hS
      simp only [List.set_cons_zero, List.set_cons_succ] at hS
      replace hS : St _ (_) (_ :: _ :: _ :: _ :: _ :: _ :: _ :: _ :: _ :: _ :: _ :: _ :: _ :: _) _ := hS
      refine ⟨⟨iQ, iQ, iQ, iQ, iQ, iQ, iQ, iQ, trivial⟩, ?_⟩
      exact goW_done kQ (j2_mk v_13_6 v_13_7 (trivial) (hF.sub (L' := []) trivial) hS)
     rintro a w ⟨v_13_6, v_13_7, -, hF, hS⟩
     (try dsimp only at hF); (try dsimp only at hS)
     refine hK18 _ _ ?_
     clear hK18
     refine wp_seq_k ?_; intro K19 hK19
     refine reg hF hS (sq rfl (q_assign rfl) <|
       sq_end) ?_
     clear hF hS; intro a w hF hS
     refine hK19 _ _ ?_
     clear hK19
     refine wp_ret ?_
     rw [Lg.fc_snoc, Lg.len_snoc M.F f] at hS
     replace hS := hS.perm (.cons _ (.cons _ (.cons _ (.cons _ (.cons _ (.cons _ (.cons _ (.cons _ (.cons _ (.cons _ (.swap _ _ _)))))))))))
     replace hS := hS.perm (.cons _ (.cons _ (.cons _ (.cons _ (.cons _ (.cons _ (.cons _ (.cons _ (.cons _ (.swap _ _ _))))))))))
     replace hS := hS.perm (.cons _ (.cons _ (.cons _ (.cons _ (.cons _ (.cons _ (.cons _ (.cons _ (.swap _ _ _)))))))))
     replace hS := hS.perm (.cons _ (.cons _ (.cons _ (.cons _ (.cons _ (.cons _ (.cons _ (.swap _ _ _))))))))
     replace hS := hS.perm (.cons _ (.cons _ (.cons _ (.cons _ (.cons _ (.cons _ (.swap _ _ _)))))))
     replace hS := hS.perm (.cons _ (.cons _ (.cons _ (.cons _ (.cons _ (.swap _ _ _))))))
     replace hS := hS.perm (.cons _ (.cons _ (.cons _ (.cons _ (.swap _ _ _)))))
     replace hS := hS.perm (.cons _ (.cons _ (.cons _ (.swap _ _ _))))
     replace hS := hS.perm (.cons _ (.cons _ (.swap _ _ _)))
     replace hS := hS.perm (.cons _ (.swap _ _ _))
     replace hS := hS.perm (.swap _ _ _)
     replace hS := hS.perm (.cons _ (.cons _ (.cons _ (.cons _ (.cons _ (.cons _ (.cons _ (.cons _ (.cons _ (.cons _ (.cons _ (.swap _ _ _))))))))))))
     replace hS := hS.perm (.cons _ (.cons _ (.cons _ (.cons _ (.cons _ (.cons _ (.cons _ (.cons _ (.cons _ (.cons _ (.swap _ _ _)))))))))))
     replace hS := hS.perm (.cons _ (.cons _ (.cons _ (.cons _ (.cons _ (.cons _ (.cons _ (.cons _ (.cons _ (.swap _ _ _))))))))))
     replace hS := hS.perm (.cons _ (.cons _ (.cons _ (.cons _ (.cons _ (.cons _ (.cons _ (.cons _ (.swap _ _ _)))))))))
     replace hS := hS.perm (.cons _ (.cons _ (.cons _ (.cons _ (.cons _ (.cons _ (.cons _ (.swap _ _ _))))))))
     replace hS := hS.perm (.cons _ (.cons _ (.cons _ (.cons _ (.cons _ (.cons _ (.swap _ _ _)))))))
     replace hS := hS.perm (.cons _ (.cons _ (.cons _ (.cons _ (.cons _ (.swap _ _ _))))))
     replace hS := hS.perm (.cons _ (.cons _ (.cons _ (.cons _ (.swap _ _ _)))))
     replace hS := hS.perm (.cons _ (.cons _ (.cons _ (.swap _ _ _))))
     replace hS := hS.perm (.cons _ (.cons _ (.swap _ _ _)))
     replace hS := hS.perm (.cons _ (.swap _ _ _))
     replace hS := hS.perm (.cons _ (.cons _ (.swap _ _ _)))
     replace hS := hS.perm (.cons _ (.cons _ (.cons _ (.swap _ _ _))))
     replace hS := hS.perm (.cons _ (.cons _ (.cons _ (.cons _ (.swap _ _ _)))))
     replace hS := hS.perm (.cons _ (.cons _ (.cons _ (.cons _ (.cons _ (.swap _ _ _))))))
     replace hS := hS.perm (.cons _ (.cons _ (.cons _ (.cons _ (.cons _ (.cons _ (.swap _ _ _)))))))
     replace hS := hS.perm (.cons _ (.cons _ (.cons _ (.cons _ (.cons _ (.cons _ (.cons _ (.swap _ _ _))))))))
     replace hS := hS.perm (.cons _ (.cons _ (.cons _ (.cons _ (.cons _ (.cons _ (.cons _ (.cons _ (.swap _ _ _)))))))))
     replace hS := hS.perm (.cons _ (.cons _ (.cons _ (.cons _ (.cons _ (.cons _ (.cons _ (.cons _ (.cons _ (.swap _ _ _))))))))))
     exact fn_retx (rs := [.tmp 4]) rfl hF hS (vs := [_]) ⟨rfl, trivial⟩ [] [_, _, _, _, _, _, _, _, _, _] sQ (sQ.n.n.n.k.k.k.k.k.k.k.k.k.k) (Lg.ldr_of (L := ⟨(Jn.app M.J M.S (Lg.enc f)).1, (Jn.app M.J M.S (Lg.enc f)).2.1, M.F ++ [f]⟩) ⟨rfl, rfl, _, _, _, _, _, _, _, _, _, rfl, hJ_10_7, hD_10_7⟩ (by rw [Lg.add_5 hc2 hc3 (by omega) hc5]) (by rw [Lg.add_5 hc2 hc3 (by omega) hc5]))
end Go.Proofs.YtngcjojijaknnaaGreatDoor
