/- A text of a proof over this seat: walks over the program's functions and the plain laws that they need. -/
import Derived.Test.YtngcjojijaknnaaGreatDoorLl13
import Derived.Test.YtngcjojijaknnaaGreatDoorLgA
import Derived.Test.YtngcjojijaknnaaGreatDoorFwB
set_option linter.all false
namespace Go.Proofs.YtngcjojijaknnaaGreatDoor
open Go.Fw
theorem fn25 : FnOk Tryz.prog 25 := ⟨_, Tryz.func25, rfl, by kernel_rfl⟩
theorem fn28 : FnOk Tryz.prog 28 := ⟨_, Tryz.func28, rfl, by kernel_rfl⟩
theorem fn30 : FnOk Tryz.prog 30 := ⟨_, Tryz.func30, rfl, by kernel_rfl⟩

attribute [local irreducible] Wi.int Wi.bytes Wi.getInt Wi.getBytes Sha.sum Jn.good Jn.hd Jn.lb Jn.cnt Jn.unp Jn.recd Jn.app Jn.opn Lg.dec Lg.enc Dk.new Lg.add Lg.taken Gu.arnd Dk.rot Dk.read

set_option maxRecDepth 4000 in
set_option maxHeartbeats 2000000 in
theorem llaw3_ct (va : Value) (l0 : List Int) (at9 bit9 : Int) (ha : -9223372036854775808 ≤ at9 ∧ at9 ≤ 9223372036854775807) (hbt : -9223372036854775808 ≤ bit9 ∧ bit9 ≤ 9223372036854775807) (w : World) (hb1 : Sl Go.Fw.encI (ph w) va l0) {fz0 : Nat × Nat} {bt0 : TypeId} (hg0 : w.heap[1]? = some (.cells (Sha.kc.map vw).toArray bt0 fz0)) : Ct Tryz.prog 5 [va, vi at9, vi bit9] w (fun r _ _ => r = .bool true) := by
 refine fn_enter Tryz.func5 rfl Tryz.ntmps5 (Nat.le_of_ble_eq_true rfl) fun a hF hS => ?_
 have hbl := hb1.1
 have har := Gu.arnd_range (n := bit9) (m := 512) (by decide)
 refine wp_seq_k ?_; intro K1 hK1
 refine reg hF hS (sq rfl (q_assign rfl) <|
   sq_end) ?_
 clear hF hS; intro a w hF hS
 refine hK1 _ _ ?_
 clear hK1
 refine wp_seq_k ?_; intro K2 hK2
 refine regl ?_
 refine wpl_sq hF hS (sq rfl (q_move rfl) <|
   sq_end) ?_
 clear hF hS; intro a w hF hS
 refine wpl_ef hF hS rfl (ef_call fn10 rfl (fun w hS => genf_ct _ _ w (Sl.mono (hS.le zin0) hb1))) ?_
 clear hF hS; rintro _ _ _ a w ⟨_, _, rfl, rfl, ⟨q2, z3, rfl, rfl, hz4, hg5⟩⟩ hF hS
 replace hS : St _ [_] [] _ := hS
 refine wpl_sq hF hS (sq rfl (q_assign rfl) <|
   sq_end) ?_
 clear hF hS; intro a w hF hS
 refine wpList_nil ?_
 obtain ⟨q, hqq⟩ : ∃ x, x = q2 := ⟨_, rfl⟩
 rw [← hqq] at hz4 hg5
 have hfil := Lg.Gen.fil hg5
 have hql := hfil.len
 have huq := hfil.us
 refine hK2 _ _ ?_
 clear hK2
 refine wp_seq_k ?_; intro K3 hK3
 refine regl ?_
 refine wpl_sq hF hS (sq rfl (q_move rfl) <|
   sq_end) ?_
 clear hF hS; intro a w hF hS
 refine wpl_ef hF hS rfl (ef_call fn25 rfl (fun w hS => lfilled_ct _ _ (by assumption) w (Sl.mono (hS.le (.inr (by simp))) hz4) (hS.ext _ _ hg0))) ?_
 clear hF hS; rintro _ _ _ a w ⟨_, _, rfl, rfl, ⟨rfl, bl7, jb8, hh9, fv10, qa11, qb12, qc13, qd14, ua15, ub16, uc17, ud18, LL19, rfl, rfl, hJ20, hD21, hFl22⟩⟩ hF hS
 replace hS : St _ [_] [_, _, _, _, _, _, _, _, _, _] _ := hS
 refine wpl_sq hF hS (sq rfl (q_move rfl) <|
   sq rfl (q_extract rfl rfl) <|
   sq rfl (q_extract rfl rfl) <|
   sq rfl (q_extract rfl rfl) <|
   sq rfl (q_assign rfl) <|
   sq rfl (q_assign rfl) <|
   sq rfl (q_assign rfl) <|
   sq_end) ?_
 clear hF hS; intro a w hF hS
 refine wpList_nil ?_
 obtain ⟨LL, hLL⟩ : ∃ x, x = LL19 := ⟨_, rfl⟩
 rw [← hLL] at hS hJ20 hD21 hFl22
 have hFl := hFl22
 have hgF := hFl.good_F
 have hFq := hFl.F
 have hLl := hFl.len
 have hFql : LL.F.length ≤ 40 := by rw [hFq]; omega
 have hst := hFl.fil.g.still
 refine hK3 _ _ ?_
 clear hK3
 refine wp_seq_k ?_; intro K4 hK4
 refine wp_seq_k ?_; intro K5 hK5
 refine regl ?_
 refine wpl_sq hF hS (sq rfl (q_move rfl) <|
   sq rfl (q_not rfl) <|
   sq rfl (q_move rfl) <|
   sq_go 36 rfl rfl rfl (q_move rfl) <|
   sq_end) ?_
 clear hF hS; intro a w hF hS
 refine wpl_efg hF hS (wanted_go 36 rfl rfl) rfl (ef_call fn26 rfl (fun w hS => facts_ct _ _ _ _ (by omega) w (own_box hS 0 rfl) (own_slK (hl := Lg.fcC_len) (h1 := Lg.fcC_one) (hS.own _ (List.mem_of_getElem? (i := 1) rfl)).1 rfl (by first | omega | (simp; done)) (Lg.good_fc hgF)))) ?_
 clear hF hS; rintro v33 _ _ a w ⟨_, _, rfl, rfl, ⟨rfl, rfl⟩⟩ hF hS
 replace hS : St _ [_] [_, _, _, _, _, _, _, _, _, _, _] _ := hS
 refine wpl_sq hF hS (sq_go 36 rfl rfl rfl (q_len_row ty26 0 rfl rfl) <|
   sq_go 36 rfl rfl rfl (q_move rfl) <|
   sq_go 36 rfl rfl rfl (q_len_sl ty26 hz4 rfl) <|
   sq_go 36 rfl rfl rfl (q_nf (q_nei rfl rfl) (by rw [hFq])) <|
   sq rfl (q_pick_f rfl rfl) <|
   sq_end) ?_
 clear hF hS; intro a w hF hS
 refine wpList_nil ?_
 refine hK5 _ _ ?_
 clear hK5
 refine wp_if hF rfl (fun h => absurd h (by simp)) (fun _ => ?_)
 refine wp_skip ?_
 refine hK4 _ _ ?_
 clear hK4
 refine wp_seq_k ?_; intro K6 hK6
 refine reg hF hS (sq rfl (q_assign rfl) <|
   sq_end) ?_
 clear hF hS; intro a w hF hS
 refine hK6 _ _ ?_
 clear hK6
 refine wp_seq_k ?_; intro K7 hK7
 refine reg hF hS (sq rfl (q_assign rfl) <|
   sq_end) ?_
 clear hF hS; intro a w hF hS
 replace hS := hS.nilRow 3 1
 refine hK7 _ _ ?_
 clear hK7
 refine wp_seq_k ?_; intro K8 hK8
 refine wp_seq_k ?_; intro K9 hK9
 refine reg hF hS (sq rfl (q_assign rfl) <|
   sq_end) ?_
 clear hF hS; intro a w hF hS
 refine hK9 _ _ ?_
 clear hK9
 refine wp_block ?_
 obtain ⟨hs0, hhs0, hS⟩ : ∃ h, h = _ ∧ St _ _ h _ := ⟨_, rfl, hS⟩
 refine wp_loopx (γ := Value × Nat) ((Value.slice none 0 0), 0) (fun (gg : Value × Nat) => match gg with | (u, i) => [(11, vi (Lg.us (q.take i) : Int)), (12, u), (13, vi (i : Int))]) [(1, _), (2, _), (7, _), (9, _)] (fun (gg : Value × Nat) => match gg with | (u, i) => (hs0.set 0 (.row u 3 1 (Lg.usL q i).length ((Lg.usL q i).map vi)))) (fun (gg : Value × Nat) => match gg with | (u, i) => i ≤ q.length) (fun (gg : Value × Nat) => match gg with | (u, i) => q.length - i) (hF.sub ⟨rfl, rfl, rfl, rfl, rfl, rfl, rfl, trivial⟩) (by subst hhs0; exact hS) (by exact Nat.zero_le _) ?_
 clear hF hS; rintro ⟨u, i⟩ a w hfact hF hS
 subst hhs0; (try dsimp only at hfact); (try dsimp only at hF); (try dsimp only at hS)
 have hi0 := hfact
 replace hS : St _ [_] [_, _, _, _, _, _, _, _, _, _, _, _] _ := hS
 have hul := Lg.usL_len q i
 refine wp_seq_k ?_; intro K10 hK10
 refine wp_seq_k ?_; intro K11 hK11
 refine reg hF hS (sq rfl (q_move rfl) <|
   sq rfl (q_move rfl) <|
   sq rfl (q_len_sl ty26 hz4 rfl) <|
   sq rfl (q_lti rfl rfl) <|
   sq_end) ?_
 clear hF hS; intro a w hF hS
 refine hK11 _ _ ?_
 clear hK11
 refine wp_ifd hF rfl (fun hc2 => ?_) (fun hc2 => ?_)
 ·have hqi := Lg.fc_at hfil (j := i) (by omega)
  have hel := Lg.enc_len (q.getD (i : Int).toNat Lg.f0)
  have hcr := Jn.cnt_rng ((Lg.enc (q.getD (i : Int).toNat Lg.f0)).length : Int)
  have hum := Lg.us_mono (l := q) (i := i) (j := q.length) (by omega)
  rw [List.take_length] at hum
  refine wp_skip ?_
  refine hK10 _ _ ?_
  clear hK10
  refine wp_seq_k ?_; intro K12 hK12
  refine wp_block ?_
  refine wp_seq_k ?_; intro K13 hK13
  refine regl ?_
  refine wpl_sq hF hS (sq rfl (q_move rfl) <|
    sq rfl (q_move rfl) <|
    sq_end) ?_
  clear hF hS; intro a w hF hS
  refine wpl_ef hF hS rfl (ef_bsliceA ty22 ty3 rfl rfl oQ (by decide) rfl rfl) ?_
  clear hF hS; rintro v36 _ _ a w ⟨rfl, rfl⟩ hF hS
  replace hS : St _ [_] [_, _, _, _, _, _, _, _, _, _, _, _, _] _ := hS
  refine wpl_ef hF hS rfl (ef_append ty22 ty3 1 rfl rfl rfl (src_row ty22 (k := 0) rfl oQ) bQ rfl (by decide)) ?_
  clear hF hS; rintro v38 _ _ a w ⟨rfl, rfl⟩ hF hS
  replace hS : St _ [_] [_, _, _, _, _, _, _, _, _, _, _, _, _] _ := hS
  refine wpl_sq hF hS (sq rfl (q_assign rfl) <|
    sq_end) ?_
  clear hF hS; intro a w hF hS
  refine wpList_nil ?_
  refine hK13 _ _ ?_
  clear hK13
  refine regl ?_
  refine wpl_sq hF hS (sq rfl (q_move rfl) <|
    sq rfl (q_move rfl) <|
    sq rfl (q_move rfl) <|
    sq rfl (q_idx_sl ty26 ty24 hz4 rfl rfl (by omega)) <|
    sq rfl (q_ld_Y ty24 hz4 (.inr (by simp)) rfl rfl (by omega)) <|
    sq_end) ?_
  clear hF hS; intro a w hF hS
  refine wpl_ef hF hS rfl (ef_call fn16 rfl (fun w hS => enc_ct (q.getD (i : Int).toNat Lg.f0) hqi.1 hqi.2 w )) ?_
  clear hF hS; rintro v39 _ _ a w ⟨_, _, rfl, rfl, rfl, rfl⟩ hF hS
  replace hS : St _ [_] [_, _, _, _, _, _, _, _, _, _, _, _, _, _] _ := hS
  refine wpl_sq hF hS (sq rfl (q_len_row ty25 0 rfl rfl) <|
    sq rfl (q_call fn27 rfl (fun w hS => count_ct _ (by first | assumption | omega) w ) (fun _ _ _ h => h)) <|
    sq rfl (q_addi rfl rfl (by omega)) <|
    sq rfl (q_assign rfl) <|
    sq_end) ?_
  clear hF hS; intro a w hF hS
  refine wpList_nil ?_
  refine hK12 _ _ ?_
  clear hK12
  refine reg hF hS (sq rfl (q_move rfl) <|
    sq rfl (q_addi rfl rfl (by omega)) <|
    sq rfl (q_assign rfl) <|
    sq_end) ?_
  clear hF hS; intro a w hF hS
  replace hS := hS.keep sQ (sQ.n.n)
  refine ⟨(v38, i + 1), ?_, ?_, hF.sub ⟨(by show some (vi _) = some (vi _); rw [← Lg.us_next (by omega)]), rfl, rfl, rfl, rfl, rfl, rfl, trivial⟩, ?_⟩
  ·(try dsimp only); omega
  ·omega
  ·rw [Lg.usL_rw, Lg.usL_rl] at hS
   exact hS
 ·obtain rfl : i = q.length := by omega
  rw [List.take_length] at hF
  refine wp_exit ?_
  refine hK8 _ _ ?_
  clear hK8
  refine wp_seq_k ?_; intro K14 hK14
  refine wp_seq_k ?_; intro K15 hK15
  refine regl ?_
  refine wpl_sq hF hS (sq rfl (q_move rfl) <|
    sq rfl (q_eqi rfl rfl) <|
    sq rfl (q_move rfl) <|
    sq_end) ?_
  clear hF hS; intro a w hF hS
  refine wpl_or 2 65 2 hF hS rfl rfl rfl rfl rfl (fun hg => have hg := (by first | exact of_decide_eq_false hg | exact hg); sq_go 65 rfl rfl rfl (q_move rfl) <|
    sq_go 65 rfl rfl rfl (q_gti rfl rfl) <|
    sq_end) rfl rfl ?_
  clear hF hS; intro a w hF hS
  refine wpList_nil ?_
  refine hK15 _ _ ?_
  clear hK15
  refine wp_if hF rfl (fun hc3 => ?_) (fun hc3 => ?_)
  ·(try simp only [Bool.or_eq_true, Bool.and_eq_true, Bool.or_eq_false_iff, Bool.and_eq_false_iff, decide_eq_true_eq, decide_eq_false_iff_not, Bool.not_eq_true', Bool.not_eq_false'] at hc3)
   refine wp_seq_k ?_; intro K16 hK16
   refine reg hF hS (sq rfl (q_move rfl) <|
     sq rfl (q_dt (q_eqi rfl rfl) (by omega)) <|
     sq rfl (q_move rfl) <|
     sq_go 71 rfl rfl rfl (q_call fn20 rfl (fun w hS => lives41_ct w (hS.ext _ _ hg0)) (fun _ _ _ h => h)) <|
     sq rfl (q_pick_t rfl rfl) <|
     sq rfl (q_assign rfl) <|
     sq_end) ?_
   clear hF hS; intro a w hF hS
   refine hK16 _ _ ?_
   clear hK16
   refine wp_ret ?_
   exact fn_ret (rs := [.tmp 6]) rfl hF hS (vs := [_]) ⟨rfl, trivial⟩ zQ zQ (rfl)
  ·(try simp only [Bool.or_eq_true, Bool.and_eq_true, Bool.or_eq_false_iff, Bool.and_eq_false_iff, decide_eq_true_eq, decide_eq_false_iff_not, Bool.not_eq_true', Bool.not_eq_false'] at hc3)
   have hu0 : ¬ Lg.us q = 0 := by omega
   have hq0 := Lg.us_zero hu0
   refine wp_skip ?_
   refine hK14 _ _ ?_
   clear hK14
   refine wp_seq_k ?_; intro K17 hK17
   refine reg hF hS (sq rfl (q_move rfl) <|
     sq rfl (q_move rfl) <|
     sq rfl (q_call fn11 rfl (fun w hS => arnd_ct _ _ (by omega) (by omega) w ) (fun _ _ _ h => h)) <|
     sq rfl (q_assign rfl) <|
     sq_end) ?_
   clear hF hS; intro a w hF hS
   have hkr := Gu.arnd_range (n := at9) (m := (Lg.us q : Int)) (by omega)
   obtain ⟨k, hkk⟩ : ∃ k : Nat, Gu.arnd at9 (Lg.us q : Int) = (k : Int) := ⟨_, (Int.toNat_of_nonneg hkr.1).symm⟩
   rw [hkk] at hF hkr
   obtain ⟨hs2, hso, hrt, hrd⟩ := Lg.fl_rot hFl (k := k) (by omega) har
   refine hK17 _ _ ?_
   clear hK17
   refine wp_seq_k ?_; intro K18 hK18
   refine reg hF hS (sq rfl (q_assign rfl) <|
     sq_end) ?_
   clear hF hS; intro a w hF hS
   refine hK18 _ _ ?_
   clear hK18
   refine wp_seq_k ?_; intro K19 hK19
   refine wp_seq_k ?_; intro K20 hK20
   refine reg hF hS (sq rfl (q_assign rfl) <|
     sq_end) ?_
   clear hF hS; intro a w hF hS
   refine hK20 _ _ ?_
   clear hK20
   refine wp_block ?_
   obtain ⟨hs0, hhs0, hS⟩ : ∃ h, h = _ ∧ St _ _ h _ := ⟨_, rfl, hS⟩
   refine wp_loopx (γ := Nat × Nat) (0, 0) (fun (gg : Nat × Nat) => match gg with | (lo, i) => [(15, vi (lo : Int)), (16, vi (i : Int))]) [(2, _), (7, _), (9, _), (12, _), (14, _)] (fun (gg : Nat × Nat) => match gg with | (lo, i) => hs0) (fun (gg : Nat × Nat) => match gg with | (lo, i) => (i ≤ q.length ∧ lo < q.length) ∧ Lg.us (q.take lo) ≤ k ∧ ∀ j, j < i → Lg.us (q.take j) ≤ k → j ≤ lo) (fun (gg : Nat × Nat) => match gg with | (lo, i) => q.length - i) (hF.sub ⟨rfl, rfl, rfl, rfl, rfl, rfl, rfl, trivial⟩) (by subst hhs0; exact hS) (by exact ⟨⟨Nat.zero_le _, hq0⟩, by rw [List.take_zero]; exact Nat.zero_le _, fun j hj => absurd hj (Nat.not_lt_zero _)⟩) ?_
   clear hF hS; rintro ⟨lo, i⟩ a w hfact hF hS
   subst hhs0; (try dsimp only at hfact); (try dsimp only at hF); (try dsimp only at hS)
   obtain ⟨⟨hi0, hlo9⟩, hlo8, hlo7⟩ := hfact
   replace hS : St _ [_] [_, _, _, _, _, _, _, _, _, _, _, _] _ := hS
   refine wp_seq_k ?_; intro K21 hK21
   refine wp_seq_k ?_; intro K22 hK22
   refine reg hF hS (sq rfl (q_move rfl) <|
     sq rfl (q_move rfl) <|
     sq rfl (q_len_row ty22 0 rfl rfl) <|
     sq rfl (q_lti rfl rfl) <|
     sq_end) ?_
   clear hF hS; intro a w hF hS
   refine hK22 _ _ ?_
   clear hK22
   refine wp_ifd hF rfl (fun hc4 => ?_) (fun hc4 => ?_)
   ·have hua := Lg.usL_at q (k := q.length) (i := i) (by omega)
    have hul := Lg.usL_len q q.length
    refine wp_skip ?_
    refine hK21 _ _ ?_
    clear hK21
    refine wp_seq_k ?_; intro K23 hK23
    refine wp_block ?_
    refine wp_seq_k ?_; intro K24 hK24
    refine reg hF hS (sq rfl (q_move rfl) <|
      sq rfl (q_move rfl) <|
      sq rfl (q_idx_row ty22 ty3 0 rfl rfl rfl (by omega)) <|
      sq rfl (q_ld_rowM ty3 0 (0 : Int) rfl rfl bQ rfl) <|
      sq rfl (q_move rfl) <|
      sq rfl (q_lei rfl rfl) <|
      sq_end) ?_
    clear hF hS; intro a w hF hS
    refine hK24 _ _ ?_
    clear hK24
    refine wp_ifd hF rfl (fun hc5 => ?_) (fun hc5 => ?_)
    ·refine reg hF hS (sq rfl (q_move rfl) <|
       sq rfl (q_assign rfl) <|
       sq_end) ?_
     clear hF hS; intro a w hF hS
     refine hK23 _ _ ?_
     clear hK23
     refine reg hF hS (sq rfl (q_move rfl) <|
       sq rfl (q_addi rfl rfl (by omega)) <|
       sq rfl (q_assign rfl) <|
       sq_end) ?_
     clear hF hS; intro a w hF hS
     refine ⟨(i, i + 1), ?_, ?_, hF.sub ⟨rfl, rfl, rfl, rfl, rfl, rfl, rfl, trivial⟩, ?_⟩
     ·(try dsimp only); omega
     ·exact ⟨⟨by omega, by omega⟩, by rw [hua] at hc5; omega, fun j hj _ => by omega⟩
     ·exact hS
    ·refine wp_skip ?_
     refine hK23 _ _ ?_
     clear hK23
     refine reg hF hS (sq rfl (q_move rfl) <|
       sq rfl (q_addi rfl rfl (by omega)) <|
       sq rfl (q_assign rfl) <|
       sq_end) ?_
     clear hF hS; intro a w hF hS
     refine ⟨(lo, i + 1), ?_, ?_, hF.sub ⟨rfl, rfl, rfl, rfl, rfl, rfl, rfl, trivial⟩, ?_⟩
     ·(try dsimp only); omega
     ·exact ⟨⟨by omega, by omega⟩, hlo8, fun j hj hle => by
       rcases Nat.lt_or_ge j i with h9 | h9
       ·exact hlo7 j h9 hle
       ·exfalso; obtain rfl : j = i := by omega
        rw [hua] at hc5; omega⟩
     ·exact hS
   ·obtain rfl : i = q.length := by omega
    have hlo6 := Lg.lost_end hlo9 (k := k) (by omega) (fun j h1 h2 => hlo7 j h1 (by omega))
    refine wp_exit ?_
    refine hK19 _ _ ?_
    clear hK19
    refine wp_seq_k ?_; intro K25 hK25
    refine wp_seq_k ?_; intro K26 hK26
    refine regl ?_
    refine wpl_sq hF hS (sq rfl (q_move rfl) <|
      sq rfl (q_move rfl) <|
      sq rfl (q_move rfl) <|
      sq rfl (q_call fn11 rfl (fun w hS => arnd_ct _ _ (by omega) (by omega) w ) (fun _ _ _ h => h)) <|
      sq_end) ?_
    clear hF hS; intro a w hF hS
    replace hS := hS.perm (.cons _ (.cons _ (.cons _ (.cons _ (.cons _ (.cons _ (.cons _ (.swap _ _ _))))))))
    replace hS := hS.perm (.cons _ (.cons _ (.cons _ (.cons _ (.cons _ (.cons _ (.swap _ _ _)))))))
    replace hS := hS.perm (.cons _ (.cons _ (.cons _ (.cons _ (.cons _ (.swap _ _ _))))))
    replace hS := hS.perm (.cons _ (.cons _ (.cons _ (.cons _ (.swap _ _ _)))))
    replace hS := hS.perm (.cons _ (.cons _ (.cons _ (.swap _ _ _))))
    replace hS := hS.perm (.cons _ (.cons _ (.swap _ _ _)))
    replace hS := hS.perm (.cons _ (.swap _ _ _))
    replace hS := hS.perm (.swap _ _ _)
    replace hS := hS.perm (.cons _ (.cons _ (.cons _ (.cons _ (.cons _ (.cons _ (.cons _ (.cons _ (.swap _ _ _)))))))))
    replace hS := hS.perm (.cons _ (.cons _ (.cons _ (.cons _ (.cons _ (.cons _ (.cons _ (.swap _ _ _))))))))
    replace hS := hS.perm (.cons _ (.cons _ (.cons _ (.cons _ (.cons _ (.cons _ (.swap _ _ _)))))))
    replace hS := hS.perm (.cons _ (.cons _ (.cons _ (.cons _ (.cons _ (.swap _ _ _))))))
    replace hS := hS.perm (.cons _ (.cons _ (.cons _ (.cons _ (.swap _ _ _)))))
    replace hS := hS.perm (.cons _ (.cons _ (.cons _ (.swap _ _ _))))
    replace hS := hS.perm (.cons _ (.cons _ (.swap _ _ _)))
    replace hS := hS.perm (.cons _ (.swap _ _ _))
    replace hS := hS.perm (.cons _ (.cons _ (.cons _ (.cons _ (.cons _ (.cons _ (.cons _ (.cons _ (.cons _ (.swap _ _ _))))))))))
    replace hS := hS.perm (.cons _ (.cons _ (.cons _ (.cons _ (.cons _ (.cons _ (.cons _ (.cons _ (.swap _ _ _)))))))))
    replace hS := hS.perm (.cons _ (.cons _ (.cons _ (.cons _ (.cons _ (.cons _ (.cons _ (.swap _ _ _))))))))
    replace hS := hS.perm (.cons _ (.cons _ (.cons _ (.cons _ (.cons _ (.cons _ (.swap _ _ _)))))))
    replace hS := hS.perm (.cons _ (.cons _ (.cons _ (.cons _ (.cons _ (.swap _ _ _))))))
    replace hS := hS.perm (.cons _ (.cons _ (.cons _ (.cons _ (.swap _ _ _)))))
    replace hS := hS.perm (.cons _ (.cons _ (.cons _ (.swap _ _ _))))
    replace hS := hS.perm (.cons _ (.cons _ (.swap _ _ _)))
    replace hS := hS.perm (.cons _ (.cons _ (.cons _ (.cons _ (.cons _ (.cons _ (.cons _ (.cons _ (.cons _ (.cons _ (.swap _ _ _)))))))))))
    replace hS := hS.perm (.cons _ (.cons _ (.cons _ (.cons _ (.cons _ (.cons _ (.cons _ (.cons _ (.cons _ (.swap _ _ _))))))))))
    replace hS := hS.perm (.cons _ (.cons _ (.cons _ (.cons _ (.cons _ (.cons _ (.cons _ (.cons _ (.swap _ _ _)))))))))
    replace hS := hS.perm (.cons _ (.cons _ (.cons _ (.cons _ (.cons _ (.cons _ (.cons _ (.swap _ _ _))))))))
    replace hS := hS.perm (.cons _ (.cons _ (.cons _ (.cons _ (.cons _ (.cons _ (.swap _ _ _)))))))
    replace hS := hS.perm (.cons _ (.cons _ (.cons _ (.cons _ (.cons _ (.swap _ _ _))))))
    replace hS := hS.perm (.cons _ (.cons _ (.cons _ (.cons _ (.swap _ _ _)))))
    replace hS := hS.perm (.cons _ (.cons _ (.cons _ (.swap _ _ _))))
    replace hS : St _ [_] [_, _, _, _, _, _, _, _, _, _, _, _] _ := hS
    refine wpl_ef hF hS rfl (ef_callx fn28 rfl (List.Perm.refl _) (by exact (drot_ct _ _ _ _ (by omega) (by omega) _ _  hD21))) ?_
    clear hF hS; rintro _ _ _ a w ⟨_, _, rfl, rfl, ⟨rfl, rfl, qa42, qb43, qc44, qd45, rfl, hD46⟩⟩ hF hS
    replace hS : St _ [_] [_, _, _, _, _, _, _, _, _, _, _, _] _ := hS
    refine wpl_sq hF hS (sq rfl (q_nf (q_nei rfl rfl) (hrt)) <|
      sq_end) ?_
    clear hF hS; intro a w hF hS
    refine wpList_nil ?_
    refine hK26 _ _ ?_
    clear hK26
    refine wp_if hF rfl (fun h => absurd h (by simp)) (fun _ => ?_)
    refine wp_skip ?_
    refine hK25 _ _ ?_
    clear hK25
    refine wp_seq_k ?_; intro K27 hK27
    refine regl ?_
    refine wpl_sq hF hS (sq rfl (q_move rfl) <|
      sq rfl (q_move rfl) <|
      sq_end) ?_
    clear hF hS; intro a w hF hS
    refine wpl_ef hF hS rfl (ef_callx fn29 rfl (List.Perm.refl _) (by exact (dread_ct _ _ _ (by omega) _ _  hD46))) ?_
    clear hF hS; rintro _ _ _ a w ⟨_, _, rfl, rfl, ⟨rfl, rfl, qa48, qb49, qc50, qd51, rfl, hD52⟩⟩ hF hS
    replace hS : St _ [_] [_, _, _, _, _, _, _, _, _, _, _, _] _ := hS
    refine wpl_sq hF hS (sq rfl (q_move rfl) <|
      sq rfl (q_extract rfl rfl) <|
      sq rfl (q_extract rfl rfl) <|
      sq rfl (q_assign rfl) <|
      sq rfl (q_assign rfl) <|
      sq_end) ?_
    clear hF hS; intro a w hF hS
    refine wpList_nil ?_
    refine hK27 _ _ ?_
    clear hK27
    refine wp_seq_k ?_; intro K28 hK28
    refine reg hF hS (sq rfl (q_move rfl) <|
      sq rfl (q_call fn30 rfl (fun w hS => unpackx_ct _ w (hS.ext _ _ hg0)) (fun _ _ _ h => h)) <|
      sq rfl (q_move rfl) <|
      sq rfl (q_extract rfl rfl) <|
      sq rfl (q_extract rfl rfl) <|
      sq rfl (q_extract rfl rfl) <|
      sq rfl (q_extract rfl rfl) <|
      sq rfl (q_extract rfl rfl) <|
      sq rfl (q_assign rfl) <|
      sq rfl (q_assign rfl) <|
      sq rfl (q_assign rfl) <|
      sq rfl (q_assign rfl) <|
      sq rfl (q_assign rfl) <|
      sq_end) ?_
    clear hF hS; intro a w hF hS
    refine hK28 _ _ ?_
    clear hK28
    refine wp_seq_k ?_; intro K29 hK29
    refine regl ?_
    refine wpl_sq hF hS (sq rfl (q_move rfl) <|
      sq_end) ?_
    clear hF hS; intro a w hF hS
    refine wpl_ef hF hS rfl (ef_callx fn31 rfl (List.Perm.refl _) (by exact (lopen_ct _ _ hso _ _ hg0 hD52))) ?_
    clear hF hS; rintro _ _ _ a w ⟨_, _, rfl, rfl, ⟨rfl, bl54, jb55, fv56, qa57, qb58, qc59, qd60, ua61, ub62, uc63, ud64, rfl, rfl, hJ65, hD66⟩⟩ hF hS
    replace hS : St _ [_] [_, _, _, _, _, _, _, _, _, _, _, _, _, _, _, _, _, _] _ := hS
    refine wpl_sq hF hS (sq rfl (q_move rfl) <|
      sq rfl (q_extract rfl rfl) <|
      sq rfl (q_extract rfl rfl) <|
      sq rfl (q_assign rfl) <|
      sq rfl (q_assign rfl) <|
      sq_end) ?_
    clear hF hS; intro a w hF hS
    refine wpList_nil ?_
    refine hK29 _ _ ?_
    clear hK29
    refine wp_seq_k ?_; intro K30 hK30
    refine wp_seq_k ?_; intro K31 hK31
    refine reg hF hS (sq rfl (q_move rfl) <|
      sq rfl (q_nf (q_nei rfl rfl) (hrd)) <|
      sq rfl (q_move rfl) <|
      sq_go 117 rfl rfl rfl (q_move rfl) <|
      sq_go 117 rfl rfl rfl (q_nf (q_nei rfl rfl) (by simp)) <|
      sq rfl (q_pick_f rfl rfl) <|
      sq rfl (q_move rfl) <|
      sq_go 121 rfl rfl rfl (q_move rfl) <|
      sq_go 121 rfl rfl rfl (q_eqpn_f ty45 rfl rfl) <|
      sq rfl (q_pick_f rfl rfl) <|
      sq_end) ?_
    clear hF hS; intro a w hF hS
    refine hK31 _ _ ?_
    clear hK31
    refine wp_if hF rfl (fun h => absurd h (by simp)) (fun _ => ?_)
    refine wp_skip ?_
    refine hK30 _ _ ?_
    clear hK30
    refine wp_seq_k ?_; intro K32 hK32
    refine wp_seq_k ?_; intro K33 hK33
    refine reg hF hS (sq rfl (q_move rfl) <|
      sq_end) ?_
    clear hF hS; intro a w hF hS
    refine hK33 _ _ ?_
    clear hK33
    refine wp_if hF rfl (fun hc8 => ?_) (fun hc8 => ?_)
    ·refine wp_seq_k ?_; intro K34 hK34
     refine reg hF hS (sq rfl (q_call fn20 rfl (fun w hS => lives41_ct w (hS.ext _ _ hg0)) (fun _ _ _ h => h)) <|
       sq rfl (q_assign rfl) <|
       sq_end) ?_
     clear hF hS; intro a w hF hS
     refine hK34 _ _ ?_
     clear hK34
     refine wp_ret ?_
     exact fn_ret (rs := [.tmp 6]) rfl hF hS (vs := [_]) ⟨rfl, trivial⟩ zQ zQ (rfl)
    ·have hfd := Lg.hol_found hFl (Lg.hol_rot hFl hlo9 hlo8 hlo6 (by omega) har hc8) (by omega) (by omega)
     have hgy := Lg.cut_good hfil.good lo
     have hyl := hgy.len
     rw [hfd] at hS
     refine wp_skip ?_
     refine hK32 _ _ ?_
     clear hK32
     refine wp_seq_k ?_; intro K35 hK35
     revert hS; revert hF; apply regJ (J := J4 (α0 := Value) (α1 := Value) (α2 := Value) (α3 := Value) 143 _ _ _ _ _) #[false, false, false, false, false, false, false, false, false, false, false, false, false, false, false, false, false] 17 mixed rfl rfl
     ·intro w hF hS
      refine goW_take 0 _ rfl kQ rfl hF (hS.keep sQ zQ) (q_move rfl) ?_
      clear hF; intro a hF
      refine goW_take 3 _ rfl kQ rfl hF (hS.keep sQ zQ) (q_move rfl) ?_
      clear hF; intro a hF
      refine goW_take 4 _ rfl kQ rfl hF (hS.keep sQ zQ) (q_move rfl) ?_
      clear hF; intro a hF
      refine goW_take 5 _ rfl kQ rfl hF (hS.keep sQ zQ) (q_slsl_hi ty26 ty24 hz4 rfl rfl (by omega)) ?_
      clear hF; intro a hF
      refine goW_take 7 _ rfl kQ rfl hF (hS.keep sQ zQ) (q_move rfl) ?_
      clear hF; intro a hF
      refine goW_take 8 _ rfl kQ rfl hF (hS.keep sQ zQ) (q_move rfl) ?_
      clear hF; intro a hF
      refine goW_take 9 _ rfl kQ rfl hF (hS.keep sQ zQ) (q_addi rfl rfl (by omega)) ?_
      clear hF; intro a hF
      refine goW_take 10 _ rfl kQ rfl hF (hS.keep sQ zQ) (q_slsl_lo ty26 ty24 hz4 rfl rfl (by omega)) ?_
      clear hF; intro a hF
      refine goW_fork [1, 2] kQ rfl ⟨?_, ?_, trivial⟩
      ·refine stepW_ef _ rfl rfl hF hS rfl (ef_call fn26 rfl (fun w hS => facts_ct _ _ _ _ (by omega) w (own_box hS 0 rfl) (own_slK (hl := Lg.fcC_len) (h1 := Lg.fcC_one) (hS.own _ (List.mem_of_getElem? (i := 1) rfl)).1 rfl (by first | omega | (simp; done)) (Lg.good_fc hgy)))) ?_
       clear hF hS; rintro v_30_1 _ _ a w ⟨_, _, rfl, rfl, ⟨rfl, rfl⟩⟩ hF hS
       refine ⟨⟨.inr (hS.keep sQ zQ), .inr (hS.keep sQ zQ), .inr (hS.keep sQ zQ), .inr (hS.keep sQ zQ), .inr (hS.keep sQ zQ), .inr (hS.keep sQ zQ), .inr (hS.keep sQ zQ), iQ, trivial⟩, ?_⟩
       refine gQ 2 rfl rfl hF hS rfl (ef_bslice0 ty26 ty24) ?_
       clear hF hS; rintro v_30_2 _ _ a w ⟨rfl, rfl⟩ hF hS
       refine ⟨⟨.inr (hS.keep sQ zQ), .inr (hS.keep sQ zQ), .inr (hS.keep sQ zQ), .inr (hS.keep sQ zQ), .inr (hS.keep sQ zQ), .inr (hS.keep sQ zQ), .inr (hS.keep sQ zQ), iQ, trivial⟩, ?_⟩
       refine gQ 6 rfl rfl hF hS rfl (ef_append ty26 ty24 0 rfl rfl rfl (src_slK ty26 (Sl.cut hz4 (by omega)) (.inr (by simp)) (by decide)) bQ rfl (by decide)) ?_
       clear hF hS; rintro v_30_6 _ _ a w ⟨rfl, rfl⟩ hF hS
       refine ⟨⟨.inr (hS.keep sQ zQ), .inr (hS.keep sQ zQ), .inr (hS.keep sQ zQ), .inr (hS.keep sQ zQ), iQ, iQ, iQ, iQ, trivial⟩, ?_⟩
       refine gQ 11 rfl rfl hF hS rfl (ef_append ty26 ty24 0 rfl rfl rfl (src_slK ty26 (Sl.cut hz4 (by omega)) (.inr (by simp)) (by decide)) bQ rfl (by decide)) ?_
       clear hF hS; rintro v_30_11 _ _ a w ⟨rfl, rfl⟩ hF hS
       replace hS : St _ [_] [_, _, _, _, _, _, _, _, _, _, _, _, _, _, _, _, _, _, _, _] _ := (hS)
       rw [Lg.cut_eq, Lg.cut_len] at hS
       replace hS : St _ [_] [_, _, _, _, _, _, _, _, _, _, _, _, _, _, _, _, _, _, _, _] _ := hS
       refine ⟨⟨iQ, iQ, .inr (hS.keep sQ zQ), iQ, iQ, iQ, iQ, iQ, trivial⟩, ?_⟩
       refine gQ 12 rfl rfl hF hS rfl (ef_qt (q_call fn32 rfl (fun w hS => samef_t _ _ _ w (own_slK (hl := Lg.fcC_len) (h1 := Lg.fcC_one) (xs := (q.take lo ++ q.drop (lo + 1))) (hS.own _ (List.mem_of_getElem? (i := 1) rfl)).1 rfl (by first | omega | (simp; done) | decide) (Lg.good_fc hgy)) (own_slK (hl := Lg.fcC_len) (h1 := Lg.fcC_one) (xs := (q.take lo ++ q.drop (lo + 1))) (hS.own _ (List.mem_of_getElem? (i := 0) rfl)).1 rfl (by first | omega | (simp; done) | decide) (Lg.good_fc hgy))) (fun _ _ _ h => h))) ?_
       clear hF hS; rintro _ _ _ a w ⟨rfl, rfl, rfl⟩ hF hS
       refine ⟨⟨iQ, iQ, .inr (hS.keep sQ zQ), iQ, iQ, iQ, iQ, iQ, trivial⟩, ?_⟩
       refine goW_take 13 _ rfl kQ rfl hF (hS.keep sQ zQ) (q_move rfl) ?_
       clear hF; intro a hF
       refine goW_fork [14] kQ rfl ⟨?_, trivial⟩
       refine stepW_efg _ rfl (wanted_go 140 rfl rfl) rfl hF hS rfl (ef_qt (q_call fn20 rfl (fun w hS => lives41_ct w (hS.ext _ _ hg0)) (fun _ _ _ h => h))) ?_
       clear hF hS; rintro _ _ _ a w ⟨rfl, rfl, rfl⟩ hF hS
       refine ⟨⟨iQ, iQ, iQ, .inr (hS.keep sQ zQ), iQ, iQ, iQ, iQ, iQ, trivial⟩, ?_⟩
       refine goW_take 15 _ rfl kQ rfl hF (hS.keep sQ zQ) (q_pick_t rfl rfl) ?_
       clear hF; intro a hF
       refine goW_take 16 _ rfl kQ rfl hF (hS.keep sQ zQ) (q_assign rfl) ?_
       clear hF; intro a hF
       exact goW_done kQ (j4_mk v_30_1 v_30_2 v_30_6 v_30_11 (trivial) (hF.sub (L' := [(6, _)]) ⟨rfl, trivial⟩) hS)
      ·refine stepW_ef _ rfl rfl hF hS rfl (ef_bslice0 ty26 ty24) ?_
       clear hF hS; rintro v_30_2 _ _ a w ⟨rfl, rfl⟩ hF hS
       refine ⟨⟨.inr (hS.keep sQ zQ), .inr (hS.keep sQ zQ), .inr (hS.keep sQ zQ), .inr (hS.keep sQ zQ), .inr (hS.keep sQ zQ), .inr (hS.keep sQ zQ), .inr (hS.keep sQ zQ), .inr (hS.keep sQ zQ), trivial⟩, ?_⟩
       refine gQ 1 rfl rfl hF hS rfl (ef_call fn26 rfl (fun w hS => facts_ct _ _ _ _ (by omega) w (own_box hS 1 rfl) (own_slK (hl := Lg.fcC_len) (h1 := Lg.fcC_one) (hS.own _ (List.mem_of_getElem? (i := 2) rfl)).1 rfl (by first | omega | (simp; done)) (Lg.good_fc hgy)))) ?_
       clear hF hS; rintro v_30_1 _ _ a w ⟨_, _, rfl, rfl, ⟨rfl, rfl⟩⟩ hF hS
       refine ⟨⟨.inr (hS.keep sQ zQ), .inr (hS.keep sQ zQ), .inr (hS.keep sQ zQ), .inr (hS.keep sQ zQ), .inr (hS.keep sQ zQ), .inr (hS.keep sQ zQ), .inr (hS.keep sQ zQ), iQ, trivial⟩, ?_⟩
       refine gQ 6 rfl rfl hF hS rfl (ef_append ty26 ty24 1 rfl rfl rfl (src_slK ty26 (Sl.cut hz4 (by omega)) (.inr (by simp)) (by decide)) bQ rfl (by decide)) ?_
       clear hF hS; rintro v_30_6 _ _ a w ⟨rfl, rfl⟩ hF hS
       refine ⟨⟨.inr (hS.keep sQ zQ), .inr (hS.keep sQ zQ), .inr (hS.keep sQ zQ), .inr (hS.keep sQ zQ), iQ, iQ, iQ, iQ, trivial⟩, ?_⟩
       refine gQ 11 rfl rfl hF hS rfl (ef_append ty26 ty24 1 rfl rfl rfl (src_slK ty26 (Sl.cut hz4 (by omega)) (.inr (by simp)) (by decide)) bQ rfl (by decide)) ?_
       clear hF hS; rintro v_30_11 _ _ a w ⟨rfl, rfl⟩ hF hS
       replace hS : St _ [_] [_, _, _, _, _, _, _, _, _, _, _, _, _, _, _, _, _, _, _, _] _ := (hS)
       rw [Lg.cut_eq, Lg.cut_len] at hS
       replace hS : St _ [_] [_, _, _, _, _, _, _, _, _, _, _, _, _, _, _, _, _, _, _, _] _ := hS
       refine ⟨⟨iQ, iQ, .inr (hS.keep sQ zQ), iQ, iQ, iQ, iQ, iQ, trivial⟩, ?_⟩
       refine gQ 12 rfl rfl hF hS rfl (ef_qt (q_call fn32 rfl (fun w hS => samef_t _ _ _ w (own_slK (hl := Lg.fcC_len) (h1 := Lg.fcC_one) (xs := (q.take lo ++ q.drop (lo + 1))) (hS.own _ (List.mem_of_getElem? (i := 0) rfl)).1 rfl (by first | omega | (simp; done) | decide) (Lg.good_fc hgy)) (own_slK (hl := Lg.fcC_len) (h1 := Lg.fcC_one) (xs := (q.take lo ++ q.drop (lo + 1))) (hS.own _ (List.mem_of_getElem? (i := 1) rfl)).1 rfl (by first | omega | (simp; done) | decide) (Lg.good_fc hgy))) (fun _ _ _ h => h))) ?_
       clear hF hS; rintro _ _ _ a w ⟨rfl, rfl, rfl⟩ hF hS
       refine ⟨⟨iQ, iQ, .inr (hS.keep sQ zQ), iQ, iQ, iQ, iQ, iQ, trivial⟩, ?_⟩
       refine goW_take 13 _ rfl kQ rfl hF (hS.keep sQ zQ) (q_move rfl) ?_
       clear hF; intro a hF
       refine goW_fork [14] kQ rfl ⟨?_, trivial⟩
       refine stepW_efg _ rfl (wanted_go 140 rfl rfl) rfl hF hS rfl (ef_qt (q_call fn20 rfl (fun w hS => lives41_ct w (hS.ext _ _ hg0)) (fun _ _ _ h => h))) ?_
       clear hF hS; rintro _ _ _ a w ⟨rfl, rfl, rfl⟩ hF hS
       refine ⟨⟨iQ, iQ, iQ, .inr (hS.keep sQ zQ), iQ, iQ, iQ, iQ, iQ, trivial⟩, ?_⟩
       refine goW_take 15 _ rfl kQ rfl hF (hS.keep sQ zQ) (q_pick_t rfl rfl) ?_
       clear hF; intro a hF
       refine goW_take 16 _ rfl kQ rfl hF (hS.keep sQ zQ) (q_assign rfl) ?_
       clear hF; intro a hF
       exact goW_done kQ (j4_mk v_30_1 v_30_2 v_30_6 v_30_11 (trivial) (hF.sub (L' := [(6, _)]) ⟨rfl, trivial⟩) (hS.perm (.swap _ _ _)))
     rintro a w ⟨v_30_1, v_30_2, v_30_6, v_30_11, -, hF, hS⟩
     (try dsimp only at hF); (try dsimp only at hS)
     refine hK35 _ _ ?_
     clear hK35
     refine wp_ret ?_
     exact fn_ret (rs := [.tmp 6]) rfl hF hS (vs := [_]) ⟨rfl, trivial⟩ zQ zQ (rfl)
end Go.Proofs.YtngcjojijaknnaaGreatDoor
