/- A text of a proof over this seat: walks over the program's functions and the plain laws that they need. -/
import Derived.Test.YtbgbfmdnpjpdgaaDd13
import Derived.Test.YtbgbfmdnpjpdgaaDkA
import Derived.Test.YtbgbfmdnpjpdgaaFwB
set_option linter.all false
namespace Go.Proofs.Ytbgbfmdnpjpdgaa
open Go.Fw


set_option maxRecDepth 4000 in
set_option maxHeartbeats 2000000 in
theorem dlaw3_ct (n : Nat) (hn : 1 ≤ n ∧ n ≤ 64) (v : Value) (os : List Dk.Op) (v2 : Value) (pk : List Int) (w : World) (hb1 : Sl Go.Fw.encO (ph w) v os) (hb2 : Sl Go.Fw.encI (ph w) v2 pk) : Ct Try.prog 5 [vi (n : Int), v, v2] w (fun r _ _ => r = .bool true) := by
 refine fn_enter Try.func5 rfl Try.ntmps5 (Nat.le_of_ble_eq_true rfl) fun a hF hS => ?_
 have hol := hb1.1
 refine wp_seq_k ?_; intro K1 hK1
 refine reg hF hS (sq rfl (q_assign rfl) <|
   sq_end) ?_
 clear hF hS; intro a w hF hS
 refine hK1 _ _ ?_
 clear hK1
 refine wp_seq_k ?_; intro K2 hK2
 refine reg hF hS (sq rfl (q_call fn9 rfl (fun w hS => sanity_ct w ) (fun _ _ _ h => h)) <|
   sq rfl (q_assign rfl) <|
   sq_end) ?_
 clear hF hS; intro a w hF hS
 refine hK2 _ _ ?_
 clear hK2
 refine wp_seq_k ?_; intro K3 hK3
 refine regl ?_
 refine wpl_sq hF hS (sq rfl (q_move rfl) <|
   sq_end) ?_
 clear hF hS; intro a w hF hS
 refine wpl_ef hF hS rfl (ef_call fn10 rfl (fun w hS => start_ct _ (by omega) w )) ?_
 clear hF hS; rintro _ _ _ a w ⟨_, _, rfl, rfl, ⟨rfl, hh2, bb3, vv4, qa5, qb6, qc7, qd8, rfl, rfl, hD9⟩⟩ hF hS
 replace hS : St _ [] [_, _, _, _, _, _] _ := hS
 refine wpl_sq hF hS (sq rfl (q_move rfl) <|
   sq rfl (q_extract rfl rfl) <|
   sq rfl (q_extract rfl rfl) <|
   sq rfl (q_extract rfl rfl) <|
   sq rfl (q_assign rfl) <|
   sq rfl (q_assign rfl) <|
   sq rfl (q_assign rfl) <|
   sq_end) ?_
 clear hF hS; intro a w hF hS
 refine wpList_nil ?_
 refine hK3 _ _ ?_
 clear hK3
 refine wp_seq_k ?_; intro K4 hK4
 refine wp_seq_k ?_; intro K5 hK5
 refine reg hF hS (sq rfl (q_move rfl) <|
   sq rfl (q_not rfl) <|
   sq rfl (q_move rfl) <|
   sq_go 29 rfl rfl rfl (q_move rfl) <|
   sq_go 29 rfl rfl rfl (q_len_sl ty22 hb1 rfl) <|
   sq_go 29 rfl rfl rfl (q_gti rfl rfl) <|
   sq rfl (q_pick_f rfl rfl) <|
   sq_end) ?_
 clear hF hS; intro a w hF hS
 refine hK5 _ _ ?_
 clear hK5
 refine wp_ifd hF rfl (fun hc1 => ?_) (fun hc1 => ?_)
 ·refine wp_seq_k ?_; intro K6 hK6
  refine reg hF hS (sq rfl (q_move rfl) <|
    sq rfl (q_move rfl) <|
    sq_go 35 rfl rfl rfl (q_move rfl) <|
    sq_go 35 rfl rfl rfl (q_move rfl) <|
    sq_skip 37 rfl rfl rfl rfl <|
    sq_skip 37 rfl rfl rfl rfl <|
    sq_go 35 rfl rfl rfl (q_pick_t rfl rfl) <|
    sq_go 35 rfl rfl rfl (q_move rfl) <|
    sq_skip 41 rfl rfl rfl rfl <|
    sq_skip 41 rfl rfl rfl rfl <|
    sq_go 35 rfl rfl rfl (q_pick_t rfl rfl) <|
    sq rfl (q_pick_t rfl rfl) <|
    sq rfl (q_assign rfl) <|
    sq_end) ?_
  clear hF hS; intro a w hF hS
  refine hK6 _ _ ?_
  clear hK6
  refine wp_ret ?_
  exact fn_ret (rs := [.tmp 6]) rfl hF hS (vs := [_]) ⟨rfl, trivial⟩ zQ zQ (rfl)
 ·skip
  refine wp_skip ?_
  refine hK4 _ _ ?_
  clear hK4
  refine wp_seq_k ?_; intro K7 hK7
  refine regl ?_
  refine wpl_sq hF hS (sq rfl (q_move rfl) <|
    sq_end) ?_
  clear hF hS; intro a w hF hS
  refine wpl_ef hF hS rfl (ef_mks ty39 ty9 rfl rfl bQ bQ rfl) ?_
  clear hF hS; rintro v16 _ _ a w ⟨rfl, rfl⟩ hF hS
  replace hS : St _ [] [_, _, _, _, _, _, _] _ := hS
  refine wpl_sq hF hS (sq rfl (q_assign rfl) <|
    sq_end) ?_
  clear hF hS; intro a w hF hS
  refine wpList_nil ?_
  rw [show (List.replicate n (Value.string { data := #[] })) = (Dk.fl n 0).map vs from by rw [Dk.fl_0, List.map_replicate]] at hS
  refine hK7 _ _ ?_
  clear hK7
  refine wp_seq_k ?_; intro K8 hK8
  refine wp_seq_k ?_; intro K9 hK9
  refine reg hF hS (sq rfl (q_assign rfl) <|
    sq_end) ?_
  clear hF hS; intro a w hF hS
  refine hK9 _ _ ?_
  clear hK9
  refine wp_block ?_
  obtain ⟨hs0, hhs0, hS⟩ : ∃ h, h = _ ∧ St _ _ h _ := ⟨_, rfl, hS⟩
  refine wp_loopx (γ := Nat) (0) (fun (i : Nat) => [(12, vi (i : Int))]) [(0, _), (1, _), (2, _), (7, _), (8, _), (11, _)] (fun (i : Nat) => (hs0.set 0 (.row v16 9 1 n ((Dk.fl n i).map vs)))) (fun (i : Nat) => i ≤ n) (fun (i : Nat) => n - i) (hF.sub ⟨rfl, rfl, rfl, rfl, rfl, rfl, rfl, trivial⟩) (by subst hhs0; exact hS) (by exact Nat.zero_le _) ?_
  clear hF hS; rintro i a w hfact hF hS
  subst hhs0; (try dsimp only at hfact); (try dsimp only at hF); (try dsimp only at hS)
  have hi0 := hfact
  replace hS : St _ [] [_, _, _, _, _, _, _] _ := hS
  have hfl := Dk.fl_len hi0
  refine wp_seq_k ?_; intro K10 hK10
  refine wp_seq_k ?_; intro K11 hK11
  refine reg hF hS (sq rfl (q_move rfl) <|
    sq rfl (q_move rfl) <|
    sq rfl (q_lti rfl rfl) <|
    sq_end) ?_
  clear hF hS; intro a w hF hS
  refine hK11 _ _ ?_
  clear hK11
  refine wp_ifd hF rfl (fun hc2 => ?_) (fun hc2 => ?_)
  ·refine wp_skip ?_
   refine hK10 _ _ ?_
   clear hK10
   refine wp_seq_k ?_; intro K12 hK12
   refine wp_block ?_
   refine regl ?_
   refine wpl_sq hF hS (sq rfl (q_move rfl) <|
     sq rfl (q_move rfl) <|
     sq rfl (q_call fn18 rfl (fun w hS => full_ct 0 w ) (fun _ _ _ h => h)) <|
     sq rfl (q_idx_row ty39 ty9 0 rfl rfl rfl (by omega)) <|
     sq_end) ?_
   clear hF hS; intro a w hF hS
   refine wpl_ef hF hS rfl (ef_st_row ty9 0 rfl rfl rfl (by omega) rfl) ?_
   clear hF hS; rintro _ _ _ a w ⟨rfl, rfl, rfl⟩ hF hS
   replace hS : St _ [] [_, _, _, _, _, _, _] _ := hS
   refine wpList_nil ?_
   refine hK12 _ _ ?_
   clear hK12
   refine reg hF hS (sq rfl (q_move rfl) <|
     sq rfl (q_addi rfl rfl (by omega)) <|
     sq rfl (q_assign rfl) <|
     sq_end) ?_
   clear hF hS; intro a w hF hS
   refine ⟨(i + 1), ?_, ?_, hF.sub ⟨rfl, rfl, rfl, rfl, rfl, rfl, rfl, trivial⟩, ?_⟩
   ·(try dsimp only); omega
   ·omega
   ·rw [show ((i : Int)).toNat = i from Int.toNat_natCast i, ← List.map_set, show List.replicate 64 (0 : UInt8) = Dk.z64 from rfl, Dk.fl_1 (n := n) (i := i) (by omega)] at hS
    exact hS
  ·refine wp_exit ?_
   refine hK8 _ _ ?_
   clear hK8
   refine wp_seq_k ?_; intro K13 hK13
   refine wp_seq_k ?_; intro K14 hK14
   refine reg hF hS (sq rfl (q_assign rfl) <|
     sq_end) ?_
   clear hF hS; intro a w hF hS
   refine hK14 _ _ ?_
   clear hK14
   refine wp_block ?_
   obtain ⟨hs0, hhs0, hS⟩ : ∃ h, h = _ ∧ St _ _ h _ := ⟨_, rfl, hS⟩
   refine wp_loopx (γ := Dk.Dsk × Res × Res × Res × Res × Nat) ((Dk.new n), qa5, qb6, qc7, qd8, 0) (fun (gg : Dk.Dsk × Res × Res × Res × Res × Nat) => match gg with | (S, q1, q2, q3, q4, j) => [(13, vi (j : Int))]) [(1, _), (2, _), (7, _), (8, _), (11, _)] (fun (gg : Dk.Dsk × Res × Res × Res × Res × Nat) => match gg with | (S, q1, q2, q3, q4, j) => (((((hs0.set 1 (q1)).set 2 (q2)).set 3 (q3)).set 4 (q4)).set 0 (.row v16 9 1 n ((Dk.cur S).map vs)))) (fun (gg : Dk.Dsk × Res × Res × Res × Res × Nat) => match gg with | (S, q1, q2, q3, q4, j) => j ≤ os.length ∧ DD hh2 S q1 q2 q3 q4 ∧ Dk.Calm S ∧ S.s.length = n) (fun (gg : Dk.Dsk × Res × Res × Res × Res × Nat) => match gg with | (S, q1, q2, q3, q4, j) => os.length - j) (hF.sub ⟨rfl, rfl, rfl, rfl, rfl, rfl, trivial⟩) (by subst hhs0; (try dsimp only); rw [Dk.fl_end (by omega) hi0] at hS; exact hS) (by exact ⟨Nat.zero_le _, hD9, Dk.calm_new n, Dk.new_len n⟩) ?_
   clear hF hS; rintro ⟨S, q1, q2, q3, q4, j⟩ a w hfact hF hS
   subst hhs0; (try dsimp only at hfact); (try dsimp only at hF); (try dsimp only at hS)
   obtain ⟨hj0, hDq, hC, hSn⟩ := hfact
   have hOS := Dk.DOk.ok hDq
   have hcl := Dk.cur_len S
   replace hS : St _ [] [_, _, _, _, _, _, _] _ := hS
   refine wp_seq_k ?_; intro K15 hK15
   refine wp_seq_k ?_; intro K16 hK16
   refine reg hF hS (sq rfl (q_move rfl) <|
     sq rfl (q_move rfl) <|
     sq rfl (q_len_sl ty22 hb1 rfl) <|
     sq rfl (q_lti rfl rfl) <|
     sq_end) ?_
   clear hF hS; intro a w hF hS
   refine hK16 _ _ ?_
   clear hK16
   refine wp_ifd hF rfl (fun hc3 => ?_) (fun hc3 => ?_)
   ·obtain ⟨pv, hqc, hk9, hi9, hb9, ht9, hps9⟩ := o_at hb1 (k := ((j : Int)).toNat) (by omega)
    refine wp_skip ?_
    refine hK15 _ _ ?_
    clear hK15
    refine wp_seq_k ?_; intro K17 hK17
    refine wp_block ?_
    refine wp_seq_k ?_; intro K18 hK18
    refine regl ?_
    refine wpl_sq hF hS (sq rfl (q_move rfl) <|
      sq rfl (q_move rfl) <|
      sq rfl (q_idx_sl ty22 ty33 hb1 rfl rfl (by omega)) <|
      sq rfl (q_ld_op ty33 hb1 zin0 hqc rfl rfl (by omega)) <|
      sq_end) ?_
    clear hF hS; intro a w hF hS
    refine wpl_ef hF hS rfl (ef_allocA ty33) ?_
    clear hF hS; rintro _ _ _ a w ⟨b18, rfl, rfl, rfl⟩ hF hS
    refine wpl_ef hF hS rfl (ef_storeW ty33 0 rfl rfl rfl rfl bQ (oc_cons rfl (oc_cons rfl (oc_cons rfl (oc_cons rfl (oc_cons (sl_one' hps9) oc_nil))))) bQ) ?_
    clear hF hS; rintro _ _ _ a w ⟨rfl, rfl, rfl⟩ hF hS
    replace hS : St _ [] [_, _, _, _, _, _, _, _] _ := hS
    refine wpList_nil ?_
    refine hK18 _ _ ?_
    clear hK18
    refine wp_seq_k ?_; intro K19 hK19
    refine wp_seq_k ?_; intro K20 hK20
    refine regl ?_
    refine wpl_sq hF hS (sq rfl (q_fieldAddr ty33 rfl rfl (s' := 0) kQ) <|
      sq rfl (q_ld_blk1 ty3 0 rfl rfl rfl rfl) <|
      sq rfl (q_eqi rfl rfl) <|
      sq rfl (q_move rfl) <|
      sq_end) ?_
    clear hF hS; intro a w hF hS
    refine wpl_or 3 70 3 hF hS rfl rfl rfl rfl rfl (fun hg => have hg := (by first | exact of_decide_eq_false hg | exact hg); sq_go 70 rfl rfl rfl (q_fieldAddr ty33 rfl rfl (s' := 0) kQ) <|
      sq_go 70 rfl rfl rfl (q_ld_blk1 ty3 0 rfl rfl rfl rfl) <|
      sq_go 70 rfl rfl rfl (q_eqi rfl rfl) <|
      sq_end) rfl rfl ?_
    clear hF hS; intro a w hF hS
    refine wpl_sq hF hS (sq rfl (q_move rfl) <|
      sq_end) ?_
    clear hF hS; intro a w hF hS
    refine wpl_or 8 75 3 hF hS rfl rfl rfl rfl rfl (fun hg => have hg := hg; sq_go 75 rfl rfl rfl (q_fieldAddr ty33 rfl rfl (s' := 0) kQ) <|
      sq_go 75 rfl rfl rfl (q_ld_blk1 ty3 0 rfl rfl rfl rfl) <|
      sq_go 75 rfl rfl rfl (q_eqi rfl rfl) <|
      sq_end) rfl rfl ?_
    clear hF hS; intro a w hF hS
    refine wpl_sq hF hS (sq rfl (q_move rfl) <|
      sq_end) ?_
    clear hF hS; intro a w hF hS
    refine wpl_or 13 80 3 hF hS rfl rfl rfl rfl rfl (fun hg => have hg := hg; sq_go 80 rfl rfl rfl (q_fieldAddr ty33 rfl rfl (s' := 0) kQ) <|
      sq_go 80 rfl rfl rfl (q_ld_blk1 ty3 0 rfl rfl rfl rfl) <|
      sq_go 80 rfl rfl rfl (q_eqi rfl rfl) <|
      sq_end) rfl rfl ?_
    clear hF hS; intro a w hF hS
    refine wpList_nil ?_
    refine hK20 _ _ ?_
    clear hK20
    refine wp_if hF rfl (fun hc4 => ?_) (fun hc4 => ?_)
    ·(try simp only [Bool.or_eq_true, Bool.and_eq_true, Bool.or_eq_false_iff, Bool.and_eq_false_iff, decide_eq_true_eq, decide_eq_false_iff_not, Bool.not_eq_true', Bool.not_eq_false'] at hc4)
     refine wp_exit ?_
     refine hK17 _ _ ?_
     clear hK17
     refine reg hF hS (sq rfl (q_move rfl) <|
       sq rfl (q_addi rfl rfl (by omega)) <|
       sq rfl (q_assign rfl) <|
       sq_end) ?_
     clear hF hS; intro a w hF hS
     replace hS := hS.keep zQ (sQ.n)
     refine ⟨(S, q1, q2, q3, q4, j + 1), ?_, ?_, hF.sub ⟨rfl, rfl, rfl, rfl, rfl, rfl, trivial⟩, ?_⟩
     ·(try dsimp only); omega
     ·exact ⟨by omega, hDq, hC, hSn⟩
     ·exact hS
    ·(try simp only [Bool.or_eq_true, Bool.and_eq_true, Bool.or_eq_false_iff, Bool.and_eq_false_iff, decide_eq_true_eq, decide_eq_false_iff_not, Bool.not_eq_true', Bool.not_eq_false'] at hc4)
     obtain ⟨hca1, hca2, hca3⟩ := Dk.calm_act hC hOS (os.getD ((j : Int)).toNat o0).k (os.getD ((j : Int)).toNat o0).i (os.getD ((j : Int)).toNat o0).b (os.getD ((j : Int)).toNat o0).t (os.getD ((j : Int)).toNat o0).ps (by omega) (by omega) (by omega) (by omega)
     refine wp_skip ?_
     refine hK19 _ _ ?_
     clear hK19
     refine wp_seq_k ?_; intro K21 hK21
     refine regl ?_
     refine wpl_sq hF hS (sq rfl (q_move rfl) <|
       sq rfl (q_ld_blkW ty33 0 rfl rfl bQ rfl) <|
       sq_end) ?_
     clear hF hS; intro a w hF hS
     replace hS := hS.perm (.cons _ (.swap _ _ _))
     replace hS := hS.perm (.swap _ _ _)
     replace hS := hS.perm (.cons _ (.cons _ (.swap _ _ _)))
     replace hS := hS.perm (.cons _ (.swap _ _ _))
     replace hS := hS.perm (.cons _ (.cons _ (.cons _ (.swap _ _ _))))
     replace hS := hS.perm (.cons _ (.cons _ (.swap _ _ _)))
     replace hS := hS.perm (.cons _ (.cons _ (.cons _ (.cons _ (.swap _ _ _)))))
     replace hS := hS.perm (.cons _ (.cons _ (.cons _ (.swap _ _ _))))
     replace hS : St _ [] [_, _, _, _, _, _, _, _] _ := hS
     refine wpl_ef hF hS rfl (ef_callx fn11 rfl (List.Perm.refl _) (by exact (do_ct _ _ (os.getD ((j : Int)).toNat o0).k (os.getD ((j : Int)).toNat o0).i (os.getD ((j : Int)).toNat o0).b (os.getD ((j : Int)).toNat o0).t (os.getD ((j : Int)).toNat o0).ps pv hk9 hi9 hb9 ht9 _ _ _ hps9 zin0  hDq))) ?_
     clear hF hS; rintro _ _ _ a w ⟨_, _, rfl, rfl, ⟨rfl, rfl, qa20, qb21, qc22, qd23, rfl, hD24⟩⟩ hF hS
     replace hS : St _ [] [_, _, _, _, _, _, _, _] _ := hS
     refine wpl_sq hF hS (sq rfl (q_move rfl) <|
       sq rfl (q_extract rfl rfl) <|
       sq rfl (q_extract rfl rfl) <|
       sq rfl (q_assign rfl) <|
       sq rfl (q_assign rfl) <|
       sq_end) ?_
     clear hF hS; intro a w hF hS
     refine wpList_nil ?_
     refine hK21 _ _ ?_
     clear hK21
     refine wp_seq_k ?_; intro K22 hK22
     refine regl ?_
     refine wpl_sq hF hS (sq rfl (q_fieldAddr ty33 rfl rfl (s' := 0) kQ) <|
       sq rfl (q_ld_blk1 ty3 4 rfl rfl rfl rfl) <|
       sq rfl (q_eqi rfl rfl) <|
       sq rfl (q_move rfl) <|
       sq_end) ?_
     clear hF hS; intro a w hF hS
     refine wpl_and 3 94 2 hF hS rfl rfl rfl rfl rfl (fun hg => have hg := (by first | exact of_decide_eq_true hg | exact hg); sq_go 94 rfl rfl rfl (q_move rfl) <|
       sq_go 94 rfl rfl rfl (q_eqi rfl rfl) <|
       sq_end) rfl rfl ?_
     clear hF hS; intro a w hF hS
     refine wpList_nil ?_
     refine hK22 _ _ ?_
     clear hK22
     refine wp_if hF rfl (fun hc5 => ?_) (fun hc5 => ?_)
     ·(try simp only [Bool.or_eq_true, Bool.and_eq_true, Bool.or_eq_false_iff, Bool.and_eq_false_iff, decide_eq_true_eq, decide_eq_false_iff_not, Bool.not_eq_true', Bool.not_eq_false'] at hc5)
      obtain ⟨hir9, hca4⟩ := hca2 hc5
      refine regt 6 mixed kQ hF hS (sq rfl (q_move rfl) <|
        sq rfl (q_fieldAddr ty33 rfl rfl (s' := 0) kQ) <|
        sq rfl (q_ld_blk1 ty3 4 rfl rfl rfl rfl) <|
        sq rfl (q_ld_blkW ty33 4 rfl rfl bQ rfl) <|
        sq rfl (q_call fn24 rfl (fun w hS => text_ct _ _ _ _ _ (sl_one' hps9) w ) (fun _ _ _ h => h)) <|
        sq rfl (q_idx_row ty39 ty9 5 rfl rfl rfl (by omega)) <|
        sq_end) ?_
      clear hF hS; intro a w hF hS
      refine wpl_ef hF hS rfl (ef_st_row ty9 5 rfl rfl rfl (by omega) rfl) ?_
      clear hF hS; rintro _ _ _ a w ⟨rfl, rfl, rfl⟩ hF hS
      replace hS : St _ [] [_, _, _, _, _, _, _, _] _ := hS
      refine wpList_nil ?_
      refine hK17 _ _ ?_
      clear hK17
      refine reg hF hS (sq rfl (q_move rfl) <|
        sq rfl (q_addi rfl rfl (by omega)) <|
        sq rfl (q_assign rfl) <|
        sq_end) ?_
      clear hF hS; intro a w hF hS
      replace hS := hS.perm (.cons _ (.cons _ (.cons _ (.cons _ (.swap _ _ _)))))
      replace hS := hS.perm (.cons _ (.cons _ (.cons _ (.swap _ _ _))))
      replace hS := hS.perm (.cons _ (.cons _ (.swap _ _ _)))
      replace hS := hS.perm (.cons _ (.swap _ _ _))
      replace hS := hS.perm (.swap _ _ _)
      replace hS := hS.perm (.cons _ (.cons _ (.cons _ (.cons _ (.cons _ (.swap _ _ _))))))
      replace hS := hS.perm (.cons _ (.cons _ (.cons _ (.cons _ (.cons _ (.cons _ (.swap _ _ _)))))))
      replace hS := hS.keep zQ (zQ.k.k.k.k.k.k.k)
      refine ⟨((Dk.act S ⟨(os.getD ((j : Int)).toNat o0).k, (os.getD ((j : Int)).toNat o0).i, (os.getD ((j : Int)).toNat o0).b, (os.getD ((j : Int)).toNat o0).t, (os.getD ((j : Int)).toNat o0).ps⟩).1, qa20, qb21, qc22, qd23, j + 1), ?_, ?_, hF.sub ⟨rfl, rfl, rfl, rfl, rfl, rfl, trivial⟩, ?_⟩
      ·(try dsimp only); omega
      ·exact ⟨by omega, hD24, hca1, by rw [Dk.act_len]; exact hSn⟩
      ·rw [← List.map_set, ← hca4] at hS
       exact hS
     ·(try simp only [Bool.or_eq_true, Bool.and_eq_true, Bool.or_eq_false_iff, Bool.and_eq_false_iff, decide_eq_true_eq, decide_eq_false_iff_not, Bool.not_eq_true', Bool.not_eq_false'] at hc5)
      refine wp_skip ?_
      refine hK17 _ _ ?_
      clear hK17
      refine reg hF hS (sq rfl (q_move rfl) <|
        sq rfl (q_addi rfl rfl (by omega)) <|
        sq rfl (q_assign rfl) <|
        sq_end) ?_
      clear hF hS; intro a w hF hS
      replace hS := hS.perm (.cons _ (.cons _ (.cons _ (.cons _ (.swap _ _ _)))))
      replace hS := hS.perm (.cons _ (.cons _ (.cons _ (.swap _ _ _))))
      replace hS := hS.perm (.cons _ (.cons _ (.swap _ _ _)))
      replace hS := hS.perm (.cons _ (.swap _ _ _))
      replace hS := hS.perm (.swap _ _ _)
      replace hS := hS.perm (.cons _ (.cons _ (.cons _ (.cons _ (.cons _ (.swap _ _ _))))))
      replace hS := hS.perm (.cons _ (.cons _ (.cons _ (.cons _ (.cons _ (.cons _ (.swap _ _ _)))))))
      replace hS := hS.keep zQ (zQ.k.k.k.k.k.k.k)
      refine ⟨((Dk.act S ⟨(os.getD ((j : Int)).toNat o0).k, (os.getD ((j : Int)).toNat o0).i, (os.getD ((j : Int)).toNat o0).b, (os.getD ((j : Int)).toNat o0).t, (os.getD ((j : Int)).toNat o0).ps⟩).1, qa20, qb21, qc22, qd23, j + 1), ?_, ?_, hF.sub ⟨rfl, rfl, rfl, rfl, rfl, rfl, trivial⟩, ?_⟩
      ·(try dsimp only); omega
      ·exact ⟨by omega, hD24, hca1, by rw [Dk.act_len]; exact hSn⟩
      ·rw [← hca3 (fun h9 => hc5.elim (fun h8 => h8 h9.1) (fun h8 => h8 h9.2))] at hS
       exact hS
   ·refine wp_exit ?_
    refine hK13 _ _ ?_
    clear hK13
    refine wp_seq_k ?_; intro K23 hK23
    refine regl ?_
    refine wpl_sq hF hS (sq rfl (q_move rfl) <|
      sq_end) ?_
    clear hF hS; intro a w hF hS
    replace hS := hS.perm (.swap _ _ _)
    replace hS := hS.perm (.cons _ (.swap _ _ _))
    replace hS := hS.perm (.cons _ (.cons _ (.swap _ _ _)))
    replace hS := hS.perm (.cons _ (.cons _ (.cons _ (.swap _ _ _))))
    replace hS : St _ [] [_, _, _, _, _, _, _] _ := hS
    refine wpl_ef hF hS rfl (ef_callx fn25 rfl (List.Perm.refl _) (by exact (dflush_ct _ _ _ _  hDq))) ?_
    clear hF hS; rintro _ _ _ a w ⟨_, _, rfl, rfl, ⟨rfl, rfl, qa26, qb27, qc28, qd29, rfl, hD30⟩⟩ hF hS
    replace hS : St _ [] [_, _, _, _, _, _, _] _ := hS
    refine wpl_sq hF hS (sq rfl (q_assign rfl) <|
      sq_end) ?_
    clear hF hS; intro a w hF hS
    refine wpList_nil ?_
    have hOf := Dk.ok_flush hOS
    have hif := Dk.image_len (Dk.flush S).1
    have hie := Dk.calm_img hC hOS
    have hfn : (Dk.flush S).1.s.length = n := by rw [← hif, ← hie, Dk.cur_len]; exact hSn
    rw [Dk.calm_flush0 hC] at hF
    rw [hie, show n = (Dk.image (Dk.flush S).1).length by rw [hif, hfn]] at hS
    refine hK23 _ _ ?_
    clear hK23
    refine wp_seq_k ?_; intro K24 hK24
    refine regl ?_
    refine wpl_sq hF hS (sq rfl (q_move rfl) <|
      sq_end) ?_
    clear hF hS; intro a w hF hS
    refine wpl_ef hF hS rfl (ef_callx fn15 rfl (List.Perm.refl _) (by exact (dimage_ct _ _ _ _  hD30))) ?_
    clear hF hS; rintro v31 _ _ a w ⟨_, _, rfl, rfl, ⟨rfl, qa32, qb33, qc34, qd35, rfl, hD36⟩⟩ hF hS
    replace hS : St _ [] [_, _, _, _, _, _, _, _] _ := hS
    refine wpl_sq hF hS (sq rfl (q_move rfl) <|
      sq rfl (q_call fn21 rfl (fun w hS => sametexts_t _ _ _ w (own_slV (f := vs) (xs := (Dk.image (Dk.flush S).1)) (hS.own _ (List.mem_of_getElem? (i := 0) rfl)).1 (Dk.image_64 hOf) rfl (by first | decide | omega)) (own_slV (f := vs) (xs := (Dk.image (Dk.flush S).1)) (hS.own _ (List.mem_of_getElem? (i := 5) rfl)).1 (Dk.image_64 hOf) rfl (by first | decide | omega))) (fun _ _ _ h => h)) <|
      sq rfl (q_assign rfl) <|
      sq_end) ?_
    clear hF hS; intro a w hF hS
    refine wpList_nil ?_
    refine hK24 _ _ ?_
    clear hK24
    refine wp_seq_k ?_; intro K25 hK25
    refine regl ?_
    refine wpl_sq hF hS (sq rfl (q_move rfl) <|
      sq rfl (q_move rfl) <|
      sq_end) ?_
    clear hF hS; intro a w hF hS
    replace hS := hS.perm (.swap _ _ _)
    replace hS := hS.perm (.cons _ (.swap _ _ _))
    replace hS := hS.perm (.cons _ (.cons _ (.swap _ _ _)))
    replace hS := hS.perm (.cons _ (.cons _ (.cons _ (.swap _ _ _))))
    replace hS : St _ [] [_, _, _, _, _, _, _, _] _ := hS
    refine wpl_ef hF hS rfl (ef_callx fn26 rfl (List.Perm.refl _) (by exact (dmount_ct _ _ _ _ _ _ _ hb2 zin0 hD36))) ?_
    clear hF hS; rintro _ _ _ a w ⟨_, _, rfl, rfl, ⟨rfl, rfl, qa39, qb40, qc41, qd42, rfl, hD43⟩⟩ hF hS
    replace hS : St _ [] [_, _, _, _, _, _, _, _] _ := hS
    refine wpList_nil ?_
    have hDm : DD hh2 (Dk.flush S).1 _ _ _ _ := (Dk.calm_mount hC hOS pk) ▸ hD43
    refine hK25 _ _ ?_
    clear hK25
    refine wp_seq_k ?_; intro K26 hK26
    refine regl ?_
    refine wpl_sq hF hS (sq rfl (q_move rfl) <|
      sq_end) ?_
    clear hF hS; intro a w hF hS
    refine wpl_ef hF hS rfl (ef_callx fn15 rfl (List.Perm.refl _) (by exact (dimage_ct _ _ _ _  hDm))) ?_
    clear hF hS; rintro v44 _ _ a w ⟨_, _, rfl, rfl, ⟨rfl, qa45, qb46, qc47, qd48, rfl, hD49⟩⟩ hF hS
    replace hS : St _ [] [_, _, _, _, _, _, _, _, _] _ := hS
    refine wpl_sq hF hS (sq rfl (q_move rfl) <|
      sq rfl (q_call fn21 rfl (fun w hS => sametexts_t _ _ _ w (own_slV (f := vs) (xs := (Dk.image (Dk.flush S).1)) (hS.own _ (List.mem_of_getElem? (i := 0) rfl)).1 (Dk.image_64 hOf) rfl (by first | decide | omega)) (own_slV (f := vs) (xs := (Dk.image (Dk.flush S).1)) (hS.own _ (List.mem_of_getElem? (i := 6) rfl)).1 (Dk.image_64 hOf) rfl (by first | decide | omega))) (fun _ _ _ h => h)) <|
      sq rfl (q_assign rfl) <|
      sq_end) ?_
    clear hF hS; intro a w hF hS
    refine wpList_nil ?_
    refine hK26 _ _ ?_
    clear hK26
    refine wp_seq_k ?_; intro K27 hK27
    refine reg hF hS (sq rfl (q_move rfl) <|
      sq rfl (q_move rfl) <|
      sq_go 118 rfl rfl rfl (q_move rfl) <|
      sq_go 118 rfl rfl rfl (q_dt (q_eqi rfl rfl) (by decide)) <|
      sq rfl (q_pick_t rfl rfl) <|
      sq rfl (q_move rfl) <|
      sq_go 122 rfl rfl rfl (q_move rfl) <|
      sq rfl (q_pick_t rfl rfl) <|
      sq rfl (q_move rfl) <|
      sq_go 125 rfl rfl rfl (q_move rfl) <|
      sq rfl (q_pick_t rfl rfl) <|
      sq rfl (q_assign rfl) <|
      sq_end) ?_
    clear hF hS; intro a w hF hS
    refine hK27 _ _ ?_
    clear hK27
    refine wp_ret ?_
    exact fn_ret (rs := [.tmp 6]) rfl hF hS (vs := [_]) ⟨rfl, trivial⟩ zQ zQ (rfl)

set_option maxRecDepth 4000 in
set_option maxHeartbeats 2000000 in
theorem dlaw3x_ct (n : Int) (hn : ¬ (1 ≤ n ∧ n ≤ 64)) (v : Value) (os : List Dk.Op) (v2 : Value) (pk : List Int) (w : World) (hb1 : Sl Go.Fw.encO (ph w) v os) (hb2 : Sl Go.Fw.encI (ph w) v2 pk) : Ct Try.prog 5 [vi n, v, v2] w (fun r _ _ => r = .bool true) := by
 refine fn_enter Try.func5 rfl Try.ntmps5 (Nat.le_of_ble_eq_true rfl) fun a hF hS => ?_
 have hol := hb1.1
 refine wp_seq_k ?_; intro K1 hK1
 refine reg hF hS (sq rfl (q_assign rfl) <|
   sq_end) ?_
 clear hF hS; intro a w hF hS
 refine hK1 _ _ ?_
 clear hK1
 refine wp_seq_k ?_; intro K2 hK2
 refine reg hF hS (sq rfl (q_call fn9 rfl (fun w hS => sanity_ct w ) (fun _ _ _ h => h)) <|
   sq rfl (q_assign rfl) <|
   sq_end) ?_
 clear hF hS; intro a w hF hS
 refine hK2 _ _ ?_
 clear hK2
 refine wp_seq_k ?_; intro K3 hK3
 refine reg hF hS (sq rfl (q_move rfl) <|
   sq rfl (q_call fn10 rfl (fun w hS => startx_ct _ (by omega) w ) (fun _ _ _ h => h)) <|
   sq rfl (q_move rfl) <|
   sq rfl (q_extract rfl rfl) <|
   sq rfl (q_extract rfl rfl) <|
   sq rfl (q_extract rfl rfl) <|
   sq rfl (q_assign rfl) <|
   sq rfl (q_assign rfl) <|
   sq rfl (q_assign rfl) <|
   sq_end) ?_
 clear hF hS; intro a w hF hS
 refine hK3 _ _ ?_
 clear hK3
 refine wp_seq_k ?_; intro K4 hK4
 refine wp_seq_k ?_; intro K5 hK5
 refine reg hF hS (sq rfl (q_move rfl) <|
   sq rfl (q_not rfl) <|
   sq rfl (q_move rfl) <|
   sq_skip 29 rfl rfl rfl rfl <|
   sq_skip 29 rfl rfl rfl rfl <|
   sq_skip 29 rfl rfl rfl rfl <|
   sq rfl (q_pick_t rfl rfl) <|
   sq_end) ?_
 clear hF hS; intro a w hF hS
 refine hK5 _ _ ?_
 clear hK5
 refine wp_if hF rfl (fun _ => ?_) (fun h => absurd h (by simp))
 refine wp_seq_k ?_; intro K6 hK6
 rcases Decidable.em (n < 1) with hB | hB
 ·skip
  refine reg hF hS (sq rfl (q_move rfl) <|
    sq rfl (q_move rfl) <|
    sq_go 35 rfl rfl rfl (q_move rfl) <|
    sq_go 35 rfl rfl rfl (q_move rfl) <|
    sq_go 37 rfl rfl rfl (q_move rfl) <|
    sq_go 37 rfl rfl rfl (q_dt (q_lti rfl rfl) (by simpa using hB)) <|
    sq_go 35 rfl rfl rfl (q_pick_f rfl rfl) <|
    sq_go 35 rfl rfl rfl (q_move rfl) <|
    sq_skip 41 rfl rfl rfl rfl <|
    sq_skip 41 rfl rfl rfl rfl <|
    sq_go 35 rfl rfl rfl (q_pick_t rfl rfl) <|
    sq rfl (q_pick_t rfl rfl) <|
    sq rfl (q_assign rfl) <|
    sq_end) ?_
  clear hF hS; intro a w hF hS
  refine hK6 _ _ ?_
  clear hK6
  refine wp_ret ?_
  exact fn_ret (rs := [.tmp 6]) rfl hF hS (vs := [_]) ⟨rfl, trivial⟩ zQ zQ (rfl)
 ·skip
  refine reg hF hS (sq rfl (q_move rfl) <|
    sq rfl (q_move rfl) <|
    sq_go 35 rfl rfl rfl (q_move rfl) <|
    sq_go 35 rfl rfl rfl (q_move rfl) <|
    sq_go 37 rfl rfl rfl (q_move rfl) <|
    sq_go 37 rfl rfl rfl (q_df (q_lti rfl rfl) (by simpa using hB)) <|
    sq_go 35 rfl rfl rfl (q_pick_f rfl rfl) <|
    sq_go 35 rfl rfl rfl (q_move rfl) <|
    sq_go 41 rfl rfl rfl (q_move rfl) <|
    sq_go 41 rfl rfl rfl (q_dt (q_gti rfl rfl) (by omega)) <|
    sq_go 35 rfl rfl rfl (q_pick_f rfl rfl) <|
    sq rfl (q_pick_t rfl rfl) <|
    sq rfl (q_assign rfl) <|
    sq_end) ?_
  clear hF hS; intro a w hF hS
  refine hK6 _ _ ?_
  clear hK6
  refine wp_ret ?_
  exact fn_ret (rs := [.tmp 6]) rfl hF hS (vs := [_]) ⟨rfl, trivial⟩ zQ zQ (rfl)

theorem dlaw3_all (n : Int) (v : Value) (os : List Dk.Op) (v2 : Value) (pk : List Int) (w : World) (hb1 : Sl Go.Fw.encO (ph w) v os) (hb2 : Sl Go.Fw.encI (ph w) v2 pk) : Ct Try.prog 5 [vi n, v, v2] w (fun r _ _ => r = .bool true) := by
 rcases Decidable.em (1 ≤ n ∧ n ≤ 64) with h | h
 ·obtain ⟨m, rfl⟩ : ∃ m : Nat, n = (m : Int) := ⟨n.toNat, by omega⟩
  exact dlaw3_ct m (by omega) v os v2 pk w hb1 hb2
 ·exact dlaw3x_ct n h v os v2 pk w hb1 hb2
end Go.Proofs.Ytbgbfmdnpjpdgaa
