/- A text of a proof over this seat: walks over the program's functions and the plain laws that they need. -/
import Derived.Test.YtngcjojijaknnaaGreatDoorLl12
import Derived.Test.YtngcjojijaknnaaGreatDoorLgA
import Derived.Test.YtngcjojijaknnaaGreatDoorFwB
set_option linter.all false
namespace Go.Proofs.YtngcjojijaknnaaGreatDoor
open Go.Fw


attribute [local irreducible] Wi.int Wi.bytes Wi.getInt Wi.getBytes Sha.sum Jn.good Jn.hd Jn.lb Jn.cnt Jn.unp Jn.recd Jn.app Jn.opn Lg.dec Lg.enc Dk.new Lg.add Lg.taken

set_option maxRecDepth 4000 in
set_option maxHeartbeats 2000000 in
theorem lfilled_ct (v : Value) (q : List Lg.Fct) (hq : Lg.Fil0 q) (w : World) (hb : Sl Go.Fw.encY (ph w) v q) {fz0 : Nat × Nat} {bt0 : TypeId} (hg0 : w.heap[1]? = some (.cells (Sha.kc.map vw).toArray bt0 fz0)) : Ct Tryz.prog 25 [v] w (fun r zs hs => zs = [] ∧ ∃ (bl b : Nat) (h : Dk.Hd) (fv : Value) (q1 q2 q3 q4 d1 d2 d3 d4 : Res) (L : Lg.Ld), r = .tuple [.pointer (some ⟨bl, 0, none⟩), .pointer (some ⟨h.b, 0, none⟩), .bool true].toArray ∧ hs = [.blk bl 119 [.pointer (some ⟨b, 0, none⟩), fv], .row fv 24 3 L.F.length (L.F.flatMap Lg.fcC), q1, q2, q3, q4, d1, d2, d3, d4] ∧ JJ b h.b L.J q1 q2 q3 q4 ∧ DD h L.S d1 d2 d3 d4 ∧ Lg.Fld q L) := by
 refine fn_enter Tryz.func25 rfl Tryz.ntmps25 (Nat.le_of_ble_eq_true rfl) fun a hF hS => ?_
 have hbl := hb.1
 have hql := hq.len
 have hof200 : (Dk.new 200).off = false := by unfold Dk.new; rfl
 have hfk0 := Lg.good_fc Lg.good_nil
 refine wp_seq_k ?_; intro K1 hK1
 refine reg hF hS (sq rfl (q_assign rfl) <|
   sq rfl (q_assign rfl) <|
   sq rfl (q_assign rfl) <|
   sq_end) ?_
 clear hF hS; intro a w hF hS
 refine hK1 _ _ ?_
 clear hK1
 refine wp_seq_k ?_; intro K2 hK2
 refine regl ?_
 refine wpl_ef hF hS rfl (ef_call fn63 rfl (fun w hS => dnew_ct 200 (by decide) w )) ?_
 clear hF hS; rintro _ _ _ a w ⟨_, _, rfl, rfl, ⟨rfl, hh2, qa3, qb4, qc5, qd6, rfl, rfl, hD7⟩⟩ hF hS
 replace hS : St _ [] [_, _, _, _] _ := hS
 refine wpl_sq hF hS (sq rfl (q_move rfl) <|
   sq rfl (q_extract rfl rfl) <|
   sq rfl (q_extract rfl rfl) <|
   sq rfl (q_assign rfl) <|
   sq rfl (q_assign rfl) <|
   sq_end) ?_
 clear hF hS; intro a w hF hS
 refine wpList_nil ?_
 refine hK2 _ _ ?_
 clear hK2
 refine wp_seq_k ?_; intro K3 hK3
 refine wp_seq_k ?_; intro K4 hK4
 refine reg hF hS (sq rfl (q_move rfl) <|
   sq rfl (q_nf (q_nei rfl rfl) (by simp)) <|
   sq rfl (q_move rfl) <|
   sq_go 16 rfl rfl rfl (q_move rfl) <|
   sq_go 16 rfl rfl rfl (q_eqpn_f ty46 rfl rfl) <|
   sq rfl (q_pick_f rfl rfl) <|
   sq_end) ?_
 clear hF hS; intro a w hF hS
 refine hK4 _ _ ?_
 clear hK4
 refine wp_if hF rfl (fun h => absurd h (by simp)) (fun _ => ?_)
 refine wp_skip ?_
 refine hK3 _ _ ?_
 clear hK3
 refine wp_seq_k ?_; intro K5 hK5
 refine regl ?_
 refine wpl_sq hF hS (sq rfl (q_move rfl) <|
   sq_end) ?_
 clear hF hS; intro a w hF hS
 refine wpl_ef hF hS rfl (ef_callx fn31 rfl (List.Perm.refl _) (by exact (lopen_ct _ _ (by assumption) _ _ hg0 hD7))) ?_
 clear hF hS; rintro _ _ _ a w ⟨_, _, rfl, rfl, ⟨rfl, bl13, jb14, fv15, qa16, qb17, qc18, qd19, ua20, ub21, uc22, ud23, rfl, rfl, hJ24, hD25⟩⟩ hF hS
 replace hS : St _ [] [_, _, _, _, _, _, _, _, _, _] _ := hS
 refine wpl_sq hF hS (sq rfl (q_move rfl) <|
   sq rfl (q_extract rfl rfl) <|
   sq rfl (q_extract rfl rfl) <|
   sq rfl (q_assign rfl) <|
   sq rfl (q_assign rfl) <|
   sq_end) ?_
 clear hF hS; intro a w hF hS
 refine wpList_nil ?_
 rw [Lg.op200] at hJ24
 rw [Lg.op200, Lg.tk0] at hS
 (try dsimp only at hS)
 refine hK5 _ _ ?_
 clear hK5
 refine wp_seq_k ?_; intro K6 hK6
 refine wp_seq_k ?_; intro K7 hK7
 refine reg hF hS (sq rfl (q_move rfl) <|
   sq rfl (q_nf (q_nei rfl rfl) (by simp)) <|
   sq rfl (q_move rfl) <|
   sq_go 27 rfl rfl rfl (q_move rfl) <|
   sq_go 27 rfl rfl rfl (q_eqpn_f ty45 rfl rfl) <|
   sq rfl (q_pick_f rfl rfl) <|
   sq_end) ?_
 clear hF hS; intro a w hF hS
 refine hK7 _ _ ?_
 clear hK7
 refine wp_if hF rfl (fun h => absurd h (by simp)) (fun _ => ?_)
 refine wp_skip ?_
 refine hK6 _ _ ?_
 clear hK6
 refine wp_seq_k ?_; intro K8 hK8
 refine wp_seq_k ?_; intro K9 hK9
 refine reg hF hS (sq rfl (q_assign rfl) <|
   sq_end) ?_
 clear hF hS; intro a w hF hS
 refine hK9 _ _ ?_
 clear hK9
 refine wp_block ?_
 obtain ⟨hs0, hhs0, hS⟩ : ∃ h, h = _ ∧ St _ _ h _ := ⟨_, rfl, hS⟩
 refine wp_loopx (γ := Lg.Ld × Value × Res × Res × Res × Res × Res × Res × Res × Res × Nat) (⟨Jn.jnil, Dk.new 200, []⟩, fv15, qa16, qb17, qc18, qd19, ua20, ub21, uc22, ud23, 0) (fun (gg : Lg.Ld × Value × Res × Res × Res × Res × Res × Res × Res × Res × Nat) => match gg with | (L, fv, p1, p2, p3, p4, q1, q2, q3, q4, j) => [(9, vi (j : Int))]) [(0, _), (5, _), (7, _)] (fun (gg : Lg.Ld × Value × Res × Res × Res × Res × Res × Res × Res × Res × Nat) => match gg with | (L, fv, p1, p2, p3, p4, q1, q2, q3, q4, j) => ((((((((((hs0.set 0 (.blk bl13 119 [.pointer (some ⟨jb14, 0, none⟩), fv])).set 1 (.row fv 24 3 L.F.length (L.F.flatMap Lg.fcC))).set 2 (p1)).set 3 (p2)).set 4 (p3)).set 5 (p4)).set 6 (q1)).set 7 (q2)).set 8 (q3)).set 9 (q4))) (fun (gg : Lg.Ld × Value × Res × Res × Res × Res × Res × Res × Res × Res × Nat) => match gg with | (L, fv, p1, p2, p3, p4, q1, q2, q3, q4, j) => j ≤ q.length ∧ JJ jb14 hh2.b L.J p1 p2 p3 p4 ∧ DD hh2 L.S q1 q2 q3 q4 ∧ Lg.Fld (q.take j) L) (fun (gg : Lg.Ld × Value × Res × Res × Res × Res × Res × Res × Res × Res × Nat) => match gg with | (L, fv, p1, p2, p3, p4, q1, q2, q3, q4, j) => q.length - j) (hF.sub ⟨rfl, rfl, rfl, rfl, trivial⟩) (by subst hhs0; exact hS) (by exact ⟨Nat.zero_le _, hJ24, hD25, Lg.fl_new⟩) ?_
 clear hF hS; rintro ⟨L, fv, p1, p2, p3, p4, q1, q2, q3, q4, j⟩ a w hfact hF hS
 subst hhs0; (try dsimp only at hfact); (try dsimp only at hF); (try dsimp only at hS)
 obtain ⟨hj0, hJp, hDq, hFl⟩ := hfact
 replace hS : St _ [] [_, _, _, _, _, _, _, _, _, _] _ := hS
 refine wp_seq_k ?_; intro K10 hK10
 refine wp_seq_k ?_; intro K11 hK11
 refine reg hF hS (sq rfl (q_move rfl) <|
   sq rfl (q_move rfl) <|
   sq rfl (q_len_sl ty26 hb rfl) <|
   sq rfl (q_lti rfl rfl) <|
   sq_end) ?_
 clear hF hS; intro a w hF hS
 refine hK11 _ _ ?_
 clear hK11
 refine wp_ifd hF rfl (fun hc3 => ?_) (fun hc3 => ?_)
 ·have hfc9 := Lg.fc_at hq (j := j) (by omega)
  obtain ⟨L2, hA9, hFl2⟩ := Lg.fl_next hq hFl (by omega)
  have hgF := hFl.good_F
  refine wp_skip ?_
  refine hK10 _ _ ?_
  clear hK10
  refine wp_seq_k ?_; intro K12 hK12
  refine wp_block ?_
  refine wp_seq_k ?_; intro K13 hK13
  refine regl ?_
  refine wpl_sq hF hS (sq rfl (q_move rfl) <|
    sq rfl (q_move rfl) <|
    sq rfl (q_move rfl) <|
    sq rfl (q_idx_sl ty26 ty24 hb rfl rfl (by omega)) <|
    sq rfl (q_ld_Y ty24 hb zin0 rfl rfl (by omega)) <|
    sq_end) ?_
  clear hF hS; intro a w hF hS
  refine wpl_ef hF hS rfl (ef_callx fn36 rfl (List.Perm.refl _) (by exact (ladd_ct _ _ _ L (q.getD (j : Int).toNat Lg.f0) hfc9.1 hfc9.2 _ _ hg0 (by assumption) hJp hDq (fv := fv)))) ?_
  clear hF hS; rintro _ _ _ a w ⟨_, _, rfl, rfl, ⟨rfl, rfl, fv33, qa34, qb35, qc36, qd37, ua38, ub39, uc40, ud41, rfl, hJ42, hD43⟩⟩ hF hS
  replace hS : St _ [] [_, _, _, _, _, _, _, _, _, _] _ := hS
  replace hS : St _ [] [_, _, _, _, _, _, _, _, _, _] _ := (hS)
  rw [hA9] at hJ42
  rw [hA9] at hD43
  rw [hA9] at hS
  rw [hA9] at hF
  (try dsimp only at hF)
  replace hS : St _ [] [_, _, _, _, _, _, _, _, _, _] _ := hS
  refine wpl_sq hF hS (sq rfl (q_nf (q_nei rfl rfl) (by simp)) <|
    sq_end) ?_
  clear hF hS; intro a w hF hS
  refine wpList_nil ?_
  refine hK13 _ _ ?_
  clear hK13
  refine wp_if hF rfl (fun h => absurd h (by simp)) (fun _ => ?_)
  refine wp_skip ?_
  refine hK12 _ _ ?_
  clear hK12
  refine reg hF hS (sq rfl (q_move rfl) <|
    sq rfl (q_addi rfl rfl (by omega)) <|
    sq rfl (q_assign rfl) <|
    sq_end) ?_
  clear hF hS; intro a w hF hS
  refine ⟨(L2, fv33, qa34, qb35, qc36, qd37, ua38, ub39, uc40, ud41, j + 1), ?_, ?_, hF.sub ⟨rfl, rfl, rfl, rfl, trivial⟩, ?_⟩
  ·(try dsimp only); omega
  ·exact ⟨by omega, hJ42, hD43, hFl2⟩
  ·exact hS
 ·obtain rfl : j = q.length := by omega
  refine wp_exit ?_
  refine hK8 _ _ ?_
  clear hK8
  refine wp_seq_k ?_; intro K14 hK14
  refine reg hF hS (sq rfl (q_move rfl) <|
    sq rfl (q_move rfl) <|
    sq rfl (q_assign rfl) <|
    sq rfl (q_assign rfl) <|
    sq rfl (q_assign rfl) <|
    sq_end) ?_
  clear hF hS; intro a w hF hS
  refine hK14 _ _ ?_
  clear hK14
  refine wp_ret ?_
  rw [List.take_length] at hFl
  exact fn_ret (rs := [.tmp 2, .tmp 3, .tmp 4]) rfl hF hS (vs := [_, _, _]) ⟨rfl, rfl, rfl, trivial⟩ sQ sQ ⟨rfl, _, _, hh2, _, _, _, _, _, _, _, _, _, L, rfl, rfl, hJp, hDq, hFl⟩
end Go.Proofs.YtngcjojijaknnaaGreatDoor
