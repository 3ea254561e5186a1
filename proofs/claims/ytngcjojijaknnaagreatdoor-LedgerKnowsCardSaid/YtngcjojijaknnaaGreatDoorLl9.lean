/- A text of a proof over this seat: walks over the program's functions and the plain laws that they need. -/
import Derived.Test.YtngcjojijaknnaaGreatDoorLl8
import Derived.Test.YtngcjojijaknnaaGreatDoorLgA
import Derived.Test.YtngcjojijaknnaaGreatDoorFwB
set_option linter.all false
namespace Go.Proofs.YtngcjojijaknnaaGreatDoor
open Go.Fw


attribute [local simp] Lg.fcC_len

set_option maxRecDepth 4000 in
set_option maxHeartbeats 2000000 in
theorem turned_ct (v : Value) (l : List Lg.Fct) (bits : Int) (hbi : -9223372036854775808 ≤ bits ∧ bits ≤ 9223372036854775807) (hl : l.length < 1048576) (w : World) (hb : Sl Go.Fw.encY (ph w) v l) : Ct Tryz.prog 21 [v, vi bits] w (fun r zs hs => ∃ (q : List Lg.Fct) (z : PH), zs = [z] ∧ hs = [] ∧ Sl Go.Fw.encY z r q ∧ Lg.Tn l q) := by
 refine fn_enter Tryz.func21 rfl Tryz.ntmps21 (Nat.le_of_ble_eq_true rfl) fun a hF hS => ?_
 have hbl := hb.1
 refine wp_seq_k ?_; intro K1 hK1
 refine reg hF hS (sq rfl (q_assign rfl) <|
   sq_end) ?_
 clear hF hS; intro a w hF hS
 refine hK1 _ _ ?_
 clear hK1
 refine wp_seq_k ?_; intro K2 hK2
 refine regl ?_
 refine wpl_ef hF hS rfl (ef_bslice0 ty26 ty24) ?_
 clear hF hS; rintro v1 _ _ a w ⟨rfl, rfl⟩ hF hS
 replace hS : St _ [] [_] _ := hS
 refine wpl_sq hF hS (sq rfl (q_move rfl) <|
   sq_end) ?_
 clear hF hS; intro a w hF hS
 refine wpl_ef hF hS rfl (ef_append ty26 ty24 0 rfl rfl rfl (src_slK ty26 hb zin0 (by decide)) bQ rfl (by decide)) ?_
 clear hF hS; rintro v3 _ _ a w ⟨rfl, rfl⟩ hF hS
 replace hS : St _ [] [_] _ := hS
 refine wpl_sq hF hS (sq rfl (q_assign rfl) <|
   sq_end) ?_
 clear hF hS; intro a w hF hS
 refine wpList_nil ?_
 replace hS := hS.rowEq (m' := l.length) (cs' := l.flatMap Lg.fcC) (Nat.zero_add _) (List.nil_append _)
 refine hK2 _ _ ?_
 clear hK2
 refine wp_seq_k ?_; intro K3 hK3
 refine wp_seq_k ?_; intro K4 hK4
 refine reg hF hS (sq rfl (q_assign rfl) <|
   sq_end) ?_
 clear hF hS; intro a w hF hS
 refine hK4 _ _ ?_
 clear hK4
 refine wp_block ?_
 obtain ⟨hs0, hhs0, hS⟩ : ∃ h, h = _ ∧ St _ _ h _ := ⟨_, rfl, hS⟩
 refine wp_loopx (γ := List Lg.Fct × Nat) (l, 0) (fun (gg : List Lg.Fct × Nat) => match gg with | (q, i) => [(6, vi (i : Int))]) [(1, _), (5, _)] (fun (gg : List Lg.Fct × Nat) => match gg with | (q, i) => (hs0.set 0 (.row v3 24 3 l.length (q.flatMap Lg.fcC)))) (fun (gg : List Lg.Fct × Nat) => match gg with | (q, i) => i ≤ l.length ∧ Lg.Tn l q) (fun (gg : List Lg.Fct × Nat) => match gg with | (q, i) => l.length - i) (hF.sub ⟨rfl, rfl, rfl, trivial⟩) (by subst hhs0; exact hS) (by exact ⟨Nat.zero_le _, Lg.Tn.refl l⟩) ?_
 clear hF hS; rintro ⟨q, i⟩ a w hfact hF hS
 subst hhs0; (try dsimp only at hfact); (try dsimp only at hF); (try dsimp only at hS)
 obtain ⟨hi0, htn⟩ := hfact
 replace hS : St _ [] [_] _ := hS
 have hql := htn.len
 refine wp_seq_k ?_; intro K5 hK5
 refine wp_seq_k ?_; intro K6 hK6
 refine reg hF hS (sq rfl (q_move rfl) <|
   sq rfl (q_addi rfl rfl (by omega)) <|
   sq rfl (q_move rfl) <|
   sq rfl (q_len_row ty26 0 rfl rfl) <|
   sq rfl (q_lti rfl rfl) <|
   sq_end) ?_
 clear hF hS; intro a w hF hS
 refine hK6 _ _ ?_
 clear hK6
 refine wp_ifd hF rfl (fun hc1 => ?_) (fun hc1 => ?_)
 ·refine wp_skip ?_
  refine hK5 _ _ ?_
  clear hK5
  refine wp_seq_k ?_; intro K7 hK7
  refine wp_block ?_
  refine wp_seq_k ?_; intro K8 hK8
  refine regq mixed kQ hS ?_
  refine wpq_seg hF (sq rfl (q_move rfl) <|
    sq rfl (q_move rfl) <|
    sq rfl (q_idx_row ty26 ty24 0 rfl rfl rfl (by omega)) <|
    sq rfl (q_fld_row ty24 0 rfl rfl (by omega) rfl (s' := 0) kQ) <|
    sq rfl (q_ld_rowK1 Lg.fcC_len Lg.f0 ty3 0 rfl rfl rfl (by omega) (by decide) rfl) <|
    sq rfl (q_move rfl) <|
    sq rfl (q_move rfl) <|
    sq rfl (q_addi rfl rfl (by omega)) <|
    sq rfl (q_idx_row ty26 ty24 0 rfl rfl rfl (by omega)) <|
    sq rfl (q_fld_row ty24 0 rfl rfl (by omega) rfl (s' := 0) kQ) <|
    sq rfl (q_ld_rowK1 Lg.fcC_len Lg.f0 ty3 0 rfl rfl rfl (by omega) (by decide) rfl) <|
    sq rfl (q_eqi rfl rfl) <|
    sq rfl (q_move rfl) <|
    sq_end) ?_
  clear hF; intro a hF
  refine wpq_and 12 30 12 hF rfl rfl rfl rfl rfl (fun hg => have hg := (by first | exact of_decide_eq_true hg | exact hg); sq_go 30 rfl rfl rfl (q_move rfl) <|
    sq_go 30 rfl rfl rfl (q_move rfl) <|
    sq_go 30 rfl rfl rfl (q_idx_row ty26 ty24 0 rfl rfl rfl (by omega)) <|
    sq_go 30 rfl rfl rfl (q_fld_row ty24 0 rfl rfl (by omega) rfl (s' := 0) kQ) <|
    sq_go 30 rfl rfl rfl (q_ld_rowK1 Lg.fcC_len Lg.f0 ty9 0 rfl rfl rfl (by omega) (by decide) rfl) <|
    sq_go 30 rfl rfl rfl (q_move rfl) <|
    sq_go 30 rfl rfl rfl (q_move rfl) <|
    sq_go 30 rfl rfl rfl (q_addi rfl rfl (by omega)) <|
    sq_go 30 rfl rfl rfl (q_idx_row ty26 ty24 0 rfl rfl rfl (by omega)) <|
    sq_go 30 rfl rfl rfl (q_fld_row ty24 0 rfl rfl (by omega) rfl (s' := 0) kQ) <|
    sq_go 30 rfl rfl rfl (q_ld_rowK1 Lg.fcC_len Lg.f0 ty9 0 rfl rfl rfl (by omega) (by decide) rfl) <|
    sq_go 30 rfl rfl rfl (q_nes rfl rfl) <|
    sq_end) rfl rfl ?_
  clear hF; intro a hF
  refine wpq_seg hF (sq rfl (q_move rfl) <|
    sq_end) ?_
  clear hF; intro a hF
  refine wpq_and 26 44 7 hF rfl rfl rfl rfl rfl (fun hg => have hg := hg; sq_go 44 rfl rfl rfl (q_move rfl) <|
    sq_go 44 rfl rfl rfl (q_move rfl) <|
    sq_go 44 rfl rfl rfl (q_remi rfl rfl (by omega)) <|
    sq_go 44 rfl rfl rfl (q_cv_iq ty3 ty113 rfl) <|
    sq_go 44 rfl rfl rfl (q_shri rfl rfl (by omega)) <|
    sq_go 44 rfl rfl rfl (q_remi' rfl rfl (by decide)) <|
    sq_go 44 rfl rfl rfl (q_nei rfl rfl) <|
    sq_end) rfl rfl ?_
  clear hF; intro a hF
  refine wpq_nil ?_
  clear hS; intro w hS
  refine hK8 _ _ ?_
  clear hK8
  refine wp_if hF rfl (fun hc2 => ?_) (fun hc2 => ?_)
  ·(try simp only [Bool.or_eq_true, Bool.and_eq_true, Bool.or_eq_false_iff, Bool.and_eq_false_iff, decide_eq_true_eq, decide_eq_false_iff_not, Bool.not_eq_true', Bool.not_eq_false'] at hc2)
   refine wp_seq_k ?_; intro K9 hK9
   refine regl ?_
   refine wpl_sq hF hS (sq rfl (q_move rfl) <|
     sq rfl (q_move rfl) <|
     sq rfl (q_idx_row ty26 ty24 0 rfl rfl rfl (by omega)) <|
     sq rfl (q_ld_rowKW Lg.fcC_len Lg.f0 ty24 0 rfl rfl rfl (by decide) (by omega)) <|
     sq_end) ?_
   clear hF hS; intro a w hF hS
   refine wpl_ef hF hS rfl (ef_allocA ty24) ?_
   clear hF hS; rintro _ _ _ a w ⟨b4, rfl, rfl, rfl⟩ hF hS
   refine wpl_ef hF hS rfl (ef_storeW ty24 0 rfl rfl rfl rfl bQ (oc_cons rfl (oc_cons rfl (oc_cons rfl oc_nil))) bQ) ?_
   clear hF hS; rintro _ _ _ a w ⟨rfl, rfl, rfl⟩ hF hS
   replace hS : St _ [] [_, _] _ := hS
   refine wpList_nil ?_
   refine hK9 _ _ ?_
   clear hK9
   refine wp_seq_k ?_; intro K10 hK10
   refine regl ?_
   refine wpl_sq hF hS (sq rfl (q_move rfl) <|
     sq rfl (q_move rfl) <|
     sq rfl (q_move rfl) <|
     sq rfl (q_move rfl) <|
     sq rfl (q_addi rfl rfl (by omega)) <|
     sq rfl (q_idx_row ty26 ty24 1 rfl rfl rfl (by omega)) <|
     sq rfl (q_ld_rowKW Lg.fcC_len Lg.f0 ty24 1 rfl rfl rfl (by decide) (by omega)) <|
     sq rfl (q_idx_row ty26 ty24 1 rfl rfl rfl (by omega)) <|
     sq_end) ?_
   clear hF hS; intro a w hF hS
   refine wpl_ef hF hS rfl (ef_st_rowKW Lg.fcC_len Lg.fcC_one ty24 1 (a := (q.getD (i + 1) Lg.f0)) rfl rfl rfl rfl (by first | exact hql.symm | (rw [List.length_set]; exact hql.symm)) bQ) ?_
   clear hF hS; rintro _ _ _ a w ⟨rfl, rfl, rfl⟩ hF hS
   replace hS : St _ [] [_, _] _ := hS
   refine wpList_nil ?_
   refine hK10 _ _ ?_
   clear hK10
   refine regl ?_
   refine wpl_sq hF hS (sq rfl (q_move rfl) <|
     sq rfl (q_move rfl) <|
     sq rfl (q_addi rfl rfl (by omega)) <|
     sq rfl (q_ld_blkW ty24 0 rfl rfl bQ rfl) <|
     sq rfl (q_idx_row ty26 ty24 1 rfl rfl rfl (by omega)) <|
     sq_end) ?_
   clear hF hS; intro a w hF hS
   refine wpl_ef hF hS rfl (ef_st_rowKW Lg.fcC_len Lg.fcC_one ty24 1 (a := (q.getD i Lg.f0)) rfl rfl rfl rfl (by first | exact hql.symm | (rw [List.length_set]; exact hql.symm)) bQ) ?_
   clear hF hS; rintro _ _ _ a w ⟨rfl, rfl, rfl⟩ hF hS
   replace hS : St _ [] [_, _] _ := hS
   refine wpList_nil ?_
   refine hK7 _ _ ?_
   clear hK7
   refine reg hF hS (sq rfl (q_move rfl) <|
     sq rfl (q_addi rfl rfl (by omega)) <|
     sq rfl (q_assign rfl) <|
     sq_end) ?_
   clear hF hS; intro a w hF hS
   replace hS := hS.keep zQ (sQ.n)
   refine ⟨((Lg.swp q i), i + 1), ?_, ?_, hF.sub ⟨rfl, rfl, rfl, trivial⟩, ?_⟩
   ·(try dsimp only); omega
   ·exact ⟨by omega, htn.step (by omega) hc2.1.1 hc2.1.2⟩
   ·exact hS
  ·(try simp only [Bool.or_eq_true, Bool.and_eq_true, Bool.or_eq_false_iff, Bool.and_eq_false_iff, decide_eq_true_eq, decide_eq_false_iff_not, Bool.not_eq_true', Bool.not_eq_false'] at hc2)
   refine wp_skip ?_
   refine hK7 _ _ ?_
   clear hK7
   refine reg hF hS (sq rfl (q_move rfl) <|
     sq rfl (q_addi rfl rfl (by omega)) <|
     sq rfl (q_assign rfl) <|
     sq_end) ?_
   clear hF hS; intro a w hF hS
   refine ⟨(q, i + 1), ?_, ?_, hF.sub ⟨rfl, rfl, rfl, trivial⟩, ?_⟩
   ·(try dsimp only); omega
   ·exact ⟨by omega, htn⟩
   ·exact hS
 ·refine wp_exit ?_
  refine hK3 _ _ ?_
  clear hK3
  refine wp_seq_k ?_; intro K11 hK11
  refine reg hF hS (sq rfl (q_move rfl) <|
    sq rfl (q_assign rfl) <|
    sq_end) ?_
  clear hF hS; intro a w hF hS
  refine hK11 _ _ ?_
  clear hK11
  refine wp_ret ?_
  obtain ⟨zr, hzr, hS⟩ := St.freezeY (xs := q) hS hql.symm (by omega) (htn.ok (Y_all hb))
  exact fn_ret (rs := [.tmp 4]) rfl hF hS (vs := [_]) ⟨rfl, trivial⟩ (zs' := [zr]) (hs' := []) (List.singleton_sublist.2 (by simp)) zQ ⟨q, zr, rfl, rfl, hzr, htn⟩
end Go.Proofs.YtngcjojijaknnaaGreatDoor
