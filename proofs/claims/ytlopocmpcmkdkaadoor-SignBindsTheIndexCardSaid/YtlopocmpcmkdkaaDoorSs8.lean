/- A text of a proof over this seat: walks over the program's functions and the plain laws that they need. -/
import Derived.Test.YtlopocmpcmkdkaaDoorSs7
import Derived.Test.YtlopocmpcmkdkaaDoorSiA
import Derived.Test.YtlopocmpcmkdkaaDoorFwB
import Derived.Test.YtlopocmpcmkdkaaDoorFwD
import Derived.Test.YtlopocmpcmkdkaaDoorFwC
set_option linter.all false
namespace Go.Proofs.YtlopocmpcmkdkaaDoor
open Go.Fw
theorem fn10 : FnOk Tryd.prog 10 := ⟨_, Tryd.func10, rfl, by kernel_rfl⟩
theorem fn11 : FnOk Tryd.prog 11 := ⟨_, Tryd.func11, rfl, by kernel_rfl⟩
theorem fn16 : FnOk Tryd.prog 16 := ⟨_, Tryd.func16, rfl, by kernel_rfl⟩
theorem fn17 : FnOk Tryd.prog 17 := ⟨_, Tryd.func17, rfl, by kernel_rfl⟩

attribute [local irreducible] Sha.sum Sha.mac Sha.ofD Wi.int Wi.ints Wi.bytes Sha.inp Si.leaf Si.nodeD Si.start Si.digs Si.dig

set_option maxRecDepth 4000 in
set_option maxHeartbeats 2000000 in
theorem sign_ct (s : List UInt8) (h n : Int) (m : List UInt8) (hs9 : s.length < 1048576) (hn9 : -9223372036854775808 ≤ n ∧ n ≤ 9223372036854775807) (hm9 : m.length < 1048576) (w : World) {fz1 : Nat × Nat} {bt1 : TypeId} (hg1 : w.heap[1]? = some (.cells (Sha.kc.map vw).toArray bt1 fz1)) : Ct Tryd.prog 14 [vs s, vi h, vi n, vs m] w (fun r _ _ => r = .tuple [vs (Si.sigS s h n m), vi (Si.sigE s h n)].toArray) := by
 refine fn_enter Tryd.func14 rfl Tryd.ntmps14 (Nat.le_of_ble_eq_true rfl) fun a hF hS => ?_
 have htr := Si.tree_16 s h.toNat 0
 have hgl := Si.digs_len (Si.dig (Si.tree s h.toNat 0) n m)
 have hd16 := Si.dig_16 (Si.tree s h.toNat 0) n m
 have hil := Wi.int_len9 n
 refine wp_seq_k ?_; intro K1 hK1
 refine reg hF hS (sq rfl (q_assign rfl) <|
   sq rfl (q_assign rfl) <|
   sq_end) ?_
 clear hF hS; intro a w hF hS
 refine hK1 _ _ ?_
 clear hK1
 refine wp_seq_k ?_; intro K2 hK2
 refine wp_block ?_
 refine wp_seq_k ?_; intro K3 hK3
 refine regl ?_
 refine wpl_sq hF hS (sq rfl (q_move rfl) <|
   sq rfl (q_len_s ty9 rfl) <|
   sq rfl (q_nei rfl rfl) <|
   sq rfl (q_move rfl) <|
   sq_end) ?_
 clear hF hS; intro a w hF hS
 refine wpl_or 3 21 3 hF hS rfl rfl rfl rfl rfl (fun hg => have hg := (nd_false hg); sq_go 21 rfl rfl rfl (q_move rfl) <|
   sq_go 21 rfl rfl rfl (q_call fn21 rfl (fun w hS => svalid_ct _ w ) (fun _ _ _ h => h)) <|
   sq_go 21 rfl rfl rfl (q_not rfl) <|
   sq_end) rfl rfl ?_
 clear hF hS; intro a w hF hS
 refine wpl_sq hF hS (sq rfl (q_assign rfl) <|
   sq_end) ?_
 clear hF hS; intro a w hF hS
 refine wpList_nil ?_
 refine hK3 _ _ ?_
 clear hK3
 refine wp_if hF rfl (fun hc1 => ?_) (fun hc1 => ?_)
 ·(try simp only [Bool.or_eq_true, Bool.and_eq_true, Bool.or_eq_false_iff, Bool.and_eq_false_iff, decide_eq_true_eq, decide_eq_false_iff_not, Bool.not_eq_true', Bool.not_eq_false'] at hc1)
  have hok : ¬ Si.okH s h := by unfold Si.okH; simp at hc1 ⊢; omega
  refine wp_seq_k ?_; intro K4 hK4
  refine reg hF hS (sq rfl (q_assign rfl) <|
    sq rfl (q_assign rfl) <|
    sq_end) ?_
  clear hF hS; intro a w hF hS
  refine hK4 _ _ ?_
  clear hK4
  refine wp_ret ?_
  exact fn_ret (rs := [.tmp 8, .tmp 9]) rfl hF hS (vs := [_, _]) ⟨rfl, rfl, trivial⟩ zQ zQ (by unfold Si.sigS Si.sigE; rw [if_neg hok, if_neg hok])
 ·(try simp only [Bool.or_eq_true, Bool.and_eq_true, Bool.or_eq_false_iff, Bool.and_eq_false_iff, decide_eq_true_eq, decide_eq_false_iff_not, Bool.not_eq_true', Bool.not_eq_false'] at hc1)
  have hok : Si.okH s h := by unfold Si.okH; (try simp at hc1); omega
  have hok1 := hok.1.2
  have hok2 := hok.2
  have hpw : (1 : Int) * 2 ^ (min h.toNat 64) = ((2 ^ h.toNat : Nat) : Int) := Si.pw (by omega)
  have hp6 := Si.p2_le (h := h.toNat) (l := 0) (by omega)
  rw [Nat.sub_zero] at hp6
  have hpz := Int.natCast_nonneg (2 ^ h.toNat)
  refine wp_seq_k ?_; intro K5 hK5
  refine regl ?_
  refine wpl_sq hF hS (sq rfl (q_move rfl) <|
    sq rfl (q_lti rfl rfl) <|
    sq rfl (q_move rfl) <|
    sq_end) ?_
  clear hF hS; intro a w hF hS
  refine wpl_or 2 29 4 hF hS rfl rfl rfl rfl rfl (fun hg => have hg := (by first | exact of_decide_eq_false hg | exact hg); sq_go 29 rfl rfl rfl (q_move rfl) <|
    sq_go 29 rfl rfl rfl (q_move rfl) <|
    sq_go 29 rfl rfl rfl (q_shli rfl rfl (by omega) (by omega)) <|
    sq_go 29 rfl rfl rfl (q_gei rfl rfl) <|
    sq_end) rfl rfl ?_
  clear hF hS; intro a w hF hS
  refine wpl_sq hF hS (sq rfl (q_assign rfl) <|
    sq_end) ?_
  clear hF hS; intro a w hF hS
  refine wpList_nil ?_
  refine hK5 _ _ ?_
  clear hK5
  refine wp_if hF rfl (fun hc2 => ?_) (fun hc2 => ?_)
  ·(try simp only [Bool.or_eq_true, Bool.and_eq_true, Bool.or_eq_false_iff, Bool.and_eq_false_iff, decide_eq_true_eq, decide_eq_false_iff_not, Bool.not_eq_true', Bool.not_eq_false'] at hc2)
   have hoi : ¬ Si.okI h n := by unfold Si.okI; omega
   refine wp_seq_k ?_; intro K6 hK6
   refine reg hF hS (sq rfl (q_assign rfl) <|
     sq rfl (q_assign rfl) <|
     sq_end) ?_
   clear hF hS; intro a w hF hS
   refine hK6 _ _ ?_
   clear hK6
   refine wp_ret ?_
   exact fn_ret (rs := [.tmp 8, .tmp 9]) rfl hF hS (vs := [_, _]) ⟨rfl, rfl, trivial⟩ zQ zQ (by unfold Si.sigS Si.sigE; rw [if_pos hok, if_pos hok, if_neg hoi, if_neg hoi])
  ·(try simp only [Bool.or_eq_true, Bool.and_eq_true, Bool.or_eq_false_iff, Bool.and_eq_false_iff, decide_eq_true_eq, decide_eq_false_iff_not, Bool.not_eq_true', Bool.not_eq_false'] at hc2)
   have hoi : Si.okI h n := by unfold Si.okI; omega
   have hoi1 := hoi.1
   have hoi2 := hoi.2
   refine wp_seq_k ?_; intro K7 hK7
   refine reg hF hS (sq rfl (q_move rfl) <|
     sq rfl (q_len_s ty9 rfl) <|
     sq rfl (q_gti rfl rfl) <|
     sq rfl (q_assign rfl) <|
     sq_end) ?_
   clear hF hS; intro a w hF hS
   refine hK7 _ _ ?_
   clear hK7
   refine wp_ifd hF rfl (fun hc3 => ?_) (fun hc3 => ?_)
   ·omega
   ·refine wp_skip ?_
    refine hK2 _ _ ?_
    clear hK2
    refine wp_seq_k ?_; intro K8 hK8
    refine regl ?_
    refine wpl_sq hF hS (sq rfl (q_move rfl) <|
      sq_end) ?_
    clear hF hS; intro a w hF hS
    refine wpl_ef hF hS rfl (ef_call fn22 rfl (fun w hS => mknodes_ct _ w )) ?_
    clear hF hS; rintro _ _ _ a w ⟨_, _, rfl, rfl, ⟨e12, e23, e34, bm5, es6, ec7, rfl, rfl, hk8, rfl⟩⟩ hF hS
    replace hS : St _ [] [_, _, _, _] _ := hS
    refine wpl_sq hF hS (sq rfl (q_assign rfl) <|
      sq_end) ?_
    clear hF hS; intro a w hF hS
    refine wpList_nil ?_
    refine hK8 _ _ ?_
    clear hK8
    refine wp_seq_k ?_; intro K9 hK9
    refine regl ?_
    refine wpl_ef hF hS rfl (ef_allocA ty54) ?_
    clear hF hS; rintro _ _ _ a w ⟨b10, rfl, rfl, rfl⟩ hF hS
    refine wpList_nil ?_
    replace hS := hS.nilRow 5 1
    replace hS : St _ [] [_, _, _, _, _, _] _ := hS
    refine hK9 _ _ ?_
    clear hK9
    refine wp_seq_k ?_; intro K10 hK10
    refine regl ?_
    refine wpl_sq hF hS (sq rfl (q_move rfl) <|
      sq_end) ?_
    clear hF hS; intro a w hF hS
    refine wpl_ef hF hS rfl (ef_call fn26 rfl (fun w hS => wint_ct _ w )) ?_
    clear hF hS; rintro v12 _ _ a w ⟨_, _, rfl, rfl, rfl, rfl⟩ hF hS
    replace hS : St _ [] [_, _, _, _, _, _, _] _ := hS
    obtain ⟨z14, hz15, hS⟩ := St.freezeB hS (by first | rfl | (simp; done) | (simp; omega)) bQ
    replace hS := hS.perm (.swap _ _ _)
    replace hS : St _ [_] [_, _, _, _, _, _] _ := hS
    refine wpl_ef hF hS rfl (ef_callxN 2 fn25 rfl (by exact (bwrite_ct _ _ _ _ [] (Wi.int n) (by first | assumption | exact .inl rfl | exact .inr rfl) (by first | omega | (simp; omega) | (simp [*]; omega)) hz15 (.inr (by simp))))) ?_
    clear hF hS; rintro _ _ _ a w ⟨_, _, rfl, rfl, ⟨u17, rfl, rfl⟩⟩ hF hS
    replace hS : St _ [_] [_, _, _, _, _, _] _ := hS
    refine wpList_nil ?_
    refine hK10 _ _ ?_
    clear hK10
    refine wp_seq_k ?_; intro K11 hK11
    refine wp_seq_k ?_; intro K12 hK12
    refine regl ?_
    refine wpl_sq hF hS (sq rfl (q_move rfl) <|
      sq rfl (q_move rfl) <|
      sq_end) ?_
    clear hF hS; intro a w hF hS
    replace hS := hS.perm (.cons _ (.swap _ _ _))
    replace hS := hS.perm (.swap _ _ _)
    replace hS := hS.perm (.cons _ (.cons _ (.swap _ _ _)))
    replace hS := hS.perm (.cons _ (.swap _ _ _))
    replace hS := hS.perm (.cons _ (.cons _ (.cons _ (.swap _ _ _))))
    replace hS := hS.perm (.cons _ (.cons _ (.swap _ _ _)))
    replace hS := hS.perm (.cons _ (.cons _ (.cons _ (.cons _ (.swap _ _ _)))))
    replace hS := hS.perm (.cons _ (.cons _ (.cons _ (.swap _ _ _))))
    replace hS : St _ [_] [_, _, _, _, _, _] _ := hS
    refine wpl_ef hF hS rfl (ef_callvx fn44 rfl rfl (List.Perm.refl _) (by exact (nodes_ct s e12 e23 e34 bm5 hs9 _ _ hg1 64 _ h.toNat 0 es6 ec7 (by omega) (by omega) (by omega) (Si.Kb.root (by omega)) hk8 ))) ?_
    clear hF hS; rintro _ _ _ a w ⟨_, _, rfl, rfl, ⟨es19, ec20, rfl, rfl, hk21, rfl⟩⟩ hF hS
    replace hS : St _ [_] [_, _, _, _, _, _] _ := hS
    refine wpl_sq hF hS (sq rfl (q_move rfl) <|
      sq rfl (q_move rfl) <|
      sq rfl (q_call fn16 rfl (fun w hS => sdigest_ct _ _ _ (by first | with_reducible assumption | omega) (by omega) (by omega) w (hS.ext _ _ hg1)) (fun _ _ _ h => h)) <|
      sq_end) ?_
    clear hF hS; intro a w hF hS
    refine wpl_ef hF hS rfl (ef_call fn10 rfl (fun w hS => sdgs_ct _ (by first | with_reducible assumption | omega) w )) ?_
    clear hF hS; rintro v22 _ _ a w ⟨_, _, rfl, rfl, ⟨z23, hz24, rfl, rfl⟩⟩ hF hS
    replace hS : St _ [_, _] [_, _, _, _, _, _] _ := hS
    refine wpl_sq hF hS (sq rfl (q_len_sl ty25 hz24 rfl) <|
      sq rfl (q_move rfl) <|
      sq_end) ?_
    clear hF hS; intro a w hF hS
    refine wpList_nil ?_
    refine hK12 _ _ ?_
    clear hK12
    refine wp_block ?_
    obtain ⟨hs0, hhs0, hS⟩ : ∃ h, h = _ ∧ St _ _ h _ := ⟨_, rfl, hS⟩
    refine wp_loopx (γ := Int × Value) (0, u17) (fun (gg : Int × Value) => match gg with | (c, u) => [(52, vi c)]) [(0, _), (1, _), (2, _), (10, _), (11, _), (50, _), (51, _)] (fun (gg : Int × Value) => match gg with | (c, u) => ((hs0.set 4 (.blk b10 54 [.pointer (some ⟨b10, 0, none⟩), u])).set 5 (.row u 5 1 (Wi.int n ++ Si.cat (Si.ch s n (Si.sgD s h n m)) c.toNat).length ((Wi.int n ++ Si.cat (Si.ch s n (Si.sgD s h n m)) c.toNat).map vb)))) (fun (gg : Int × Value) => match gg with | (c, u) => 0 ≤ c ∧ c ≤ 68) (fun (gg : Int × Value) => match gg with | (c, u) => (68 - c).toNat) (hF.sub ⟨rfl, rfl, rfl, rfl, rfl, rfl, rfl, rfl, trivial⟩) (by subst hhs0; (try dsimp only); rw [show (0 : Int).toNat = 0 from rfl, Si.cat_0, List.append_nil]; exact hS) (by exact ⟨Int.le_refl _, by omega⟩) ?_
    clear hF hS; rintro ⟨c, u⟩ a w hfact hF hS
    subst hhs0; (try dsimp only at hfact); (try dsimp only at hF); (try dsimp only at hS)
    obtain ⟨hc0, hc68⟩ := hfact
    replace hS : St _ [_, _] [_, _, _, _, _, _] _ := hS
    have hl1 := Si.sg_len1 s n (Si.sgD s h n m) c.toNat (by omega)
    have hdc := Si.digs_get (Si.dig (Si.tree s h.toNat 0) n m) c.toNat
    have hst := Si.start_16 s n c
    have had := Si.ch_16 s n (Si.sgD s h n m) c
    unfold Si.ch Si.sgD at had
    refine wp_seq_k ?_; intro K13 hK13
    refine reg hF hS (sq rfl (q_lti rfl rfl) <|
      sq_end) ?_
    clear hF hS; intro a w hF hS
    refine hK13 _ _ ?_
    clear hK13
    refine wp_seq_k ?_; intro K14 hK14
    refine wp_ifd hF rfl (fun hc4 => ?_) (fun hc4 => ?_)
    ·refine wp_skip ?_
     refine hK14 _ _ ?_
     clear hK14
     refine wp_seq_k ?_; intro K15 hK15
     refine wp_block ?_
     refine wp_seq_k ?_; intro K16 hK16
     refine reg hF hS (sq rfl (q_move rfl) <|
       sq rfl (q_idx_sl ty25 ty3 hz24 rfl rfl (by omega)) <|
       sq rfl (q_ld_I ty3 hz24 (.inr (by simp)) rfl rfl (by omega)) <|
       sq rfl (q_assign rfl) <|
       sq rfl (q_assign rfl) <|
       sq_end) ?_
     clear hF hS; intro a w hF hS
     refine hK16 _ _ ?_
     clear hK16
     refine wp_seq_k ?_; intro K17 hK17
     refine regl ?_
     refine wpl_sq hF hS (sq rfl (q_move rfl) <|
       sq rfl (q_move rfl) <|
       sq rfl (q_move rfl) <|
       sq rfl (q_move rfl) <|
       sq rfl (q_move rfl) <|
       sq rfl (q_move rfl) <|
       sq rfl (q_call fn28 rfl (fun w hS => sstart_ct _ _ _ (by first | with_reducible assumption | omega) (by first | with_reducible assumption | omega) (by first | with_reducible assumption | omega) w (hS.ext _ _ hg1)) (fun _ _ _ h => h)) <|
       sq rfl (q_call fn27 rfl (fun w hS => sadv_ct _ _ _ _ _ (by first | with_reducible assumption | omega) (by first | with_reducible assumption | omega) (by first | with_reducible assumption | omega) (by first | with_reducible assumption | omega) (by first | with_reducible assumption | omega) w (hS.ext _ _ hg1)) (fun _ _ _ h => h)) <|
       sq_end) ?_
     clear hF hS; intro a w hF hS
     refine wpl_ef hF hS rfl (ef_allocA ty23) ?_
     clear hF hS; rintro _ _ _ a w ⟨b25, rfl, rfl, rfl⟩ hF hS
     rw [show List.replicate 16 (Value.int .u8 0) = (List.replicate 16 (0 : UInt8)).map vb from by rw [List.map_replicate] <;> rfl] at hS
     refine wpl_ef hF hS rfl (ef_storeW ty23 0 rfl rfl rfl rfl bQ oQ bQ) ?_
     clear hF hS; rintro _ _ _ a w ⟨rfl, rfl, rfl⟩ hF hS
     replace hS : St _ [_, _] [_, _, _, _, _, _, _] _ := hS
     refine wpList_nil ?_
     refine hK17 _ _ ?_
     clear hK17
     refine regl ?_
     refine wpl_sq hF hS (sq rfl (q_sla ty23 ty5 rfl) <|
       sq_end) ?_
     clear hF hS; intro a w hF hS
     obtain ⟨z26, hz27, hS⟩ := St.freezeBlk (h0 := fun _ => rfl) (f := vb) (p := fun _ => True) (m := 16) hS (by first | (symm; assumption) | omega | (simp [*]; done)) (by decide) (fun _ _ => trivial)
     replace hS := hS.perm (.cons _ (.cons _ (.cons _ (.swap _ _ _))))
     replace hS := hS.perm (.cons _ (.cons _ (.swap _ _ _)))
     replace hS := hS.perm (.cons _ (.swap _ _ _))
     replace hS := hS.perm (.swap _ _ _)
     replace hS := hS.perm (.cons _ (.cons _ (.cons _ (.cons _ (.swap _ _ _)))))
     replace hS := hS.perm (.cons _ (.cons _ (.cons _ (.swap _ _ _))))
     replace hS := hS.perm (.cons _ (.cons _ (.swap _ _ _)))
     replace hS := hS.perm (.cons _ (.swap _ _ _))
     replace hS : St _ [_, _, _] [_, _, _, _, _, _] _ := hS
     refine wpl_ef hF hS rfl (ef_callxN 2 fn25 rfl (by exact (bwrite_ct _ _ _ _ _ _ (by first | assumption | exact .inl rfl | exact .inr rfl) (by first | omega | (simp; omega) | (simp [*]; omega)) hz27 (.inr (by simp))))) ?_
     clear hF hS; rintro _ _ _ a w ⟨_, _, rfl, rfl, ⟨u29, rfl, rfl⟩⟩ hF hS
     replace hS : St _ [_, _, _] [_, _, _, _, _, _] _ := hS
     refine wpList_nil ?_
     refine hK15 _ _ ?_
     clear hK15
     refine reg hF hS (sq rfl (q_addi rfl rfl (by omega)) <|
       sq rfl (q_move rfl) <|
       sq_end) ?_
     clear hF hS; intro a w hF hS
     replace hS := hS.perm (.cons _ (.swap _ _ _))
     replace hS := hS.perm (.swap _ _ _)
     replace hS := hS.perm (.cons _ (.cons _ (.swap _ _ _)))
     replace hS := hS.perm (.cons _ (.swap _ _ _))
     replace hS := hS.perm (.cons _ (.cons _ (.cons _ (.swap _ _ _))))
     replace hS := hS.perm (.cons _ (.cons _ (.swap _ _ _)))
     replace hS := hS.perm (.cons _ (.cons _ (.cons _ (.cons _ (.swap _ _ _)))))
     replace hS := hS.perm (.cons _ (.cons _ (.cons _ (.swap _ _ _))))
     replace hS := hS.keep (sQ.n) sQ
     refine ⟨(c + 1, u29), ?_, ?_, hF.sub ⟨rfl, rfl, rfl, rfl, rfl, rfl, rfl, rfl, trivial⟩, ?_⟩
     ·(try dsimp only); omega
     ·(try dsimp only); omega
     ·(try dsimp only); rw [Si.cat_next hc0, ← List.append_assoc]; exact hS
    ·obtain rfl : c = 68 := by omega
     rw [show (68 : Int).toNat = 68 from rfl] at hS
     refine wp_exit ?_
     refine hK11 _ _ ?_
     clear hK11
     refine wp_seq_k ?_; intro K18 hK18
     refine wp_seq_k ?_; intro K19 hK19
     refine reg hF hS (sq rfl (q_move rfl) <|
       sq rfl (q_move rfl) <|
       sq_end) ?_
     clear hF hS; intro a w hF hS
     refine hK19 _ _ ?_
     clear hK19
     refine wp_block ?_
     obtain ⟨hs0, hhs0, hS⟩ : ∃ h, h = _ ∧ St _ _ h _ := ⟨_, rfl, hS⟩
     refine wp_loopx (γ := Int × Value × List MapEntry × Nat) (0, u, es19, ec20) (fun (gg : Int × Value × List MapEntry × Nat) => match gg with | (l, u, es, ec) => [(69, vi l)]) [(2, _), (10, _), (11, _), (68, _)] (fun (gg : Int × Value × List MapEntry × Nat) => match gg with | (l, u, es, ec) => (((hs0.set 4 (.blk b10 54 [.pointer (some ⟨b10, 0, none⟩), u])).set 5 (.row u 5 1 (Wi.int n ++ Si.cat (Si.ch s n (Si.sgD s h n m)) 68 ++ Si.cat (Si.nb s n) l.toNat).length ((Wi.int n ++ Si.cat (Si.ch s n (Si.sgD s h n m)) 68 ++ Si.cat (Si.nb s n) l.toNat).map vb))).set 1 (.mp bm5 es ec))) (fun (gg : Int × Value × List MapEntry × Nat) => match gg with | (l, u, es, ec) => 0 ≤ l ∧ l ≤ h ∧ Si.MOk s es) (fun (gg : Int × Value × List MapEntry × Nat) => match gg with | (l, u, es, ec) => (h - l).toNat) (hF.sub ⟨rfl, rfl, rfl, rfl, rfl, trivial⟩) (by subst hhs0; (try dsimp only); rw [show (0 : Int).toNat = 0 from rfl, Si.cat_0, List.append_nil]; exact hS) (by exact ⟨Int.le_refl _, by omega, hk21⟩) ?_
     clear hF hS; rintro ⟨l, u, es, ec⟩ a w hfact hF hS
     subst hhs0; (try dsimp only at hfact); (try dsimp only at hF); (try dsimp only at hS)
     obtain ⟨hl0, hl1x, hOkL⟩ := hfact
     replace hS : St _ [_, _] [_, _, _, _, _, _] _ := hS
     have hl2 := Si.sg_len2 s n (Si.sgD s h n m) l.toNat (by omega)
     refine wp_seq_k ?_; intro K20 hK20
     refine reg hF hS (sq rfl (q_lti rfl rfl) <|
       sq_end) ?_
     clear hF hS; intro a w hF hS
     refine hK20 _ _ ?_
     clear hK20
     refine wp_seq_k ?_; intro K21 hK21
     refine wp_ifd hF rfl (fun hc5 => ?_) (fun hc5 => ?_)
     ·have hdv := Si.div_lt (i := n) (h := h.toNat) (l := l.toNat) (by omega) hoi1 hoi2
      have hix : ixor (n / 2 ^ (min l.toNat 64)) 1 = Si.sib (n / 2 ^ l.toNat) := by
       rw [Nat.min_eq_left (by omega)]; exact Si.ixor_sib hdv.1 (by have := Si.p2_le (h := h.toNat) (l := l.toNat) (by omega); have h4 : ((2 ^ (h.toNat - l.toNat) : Nat) : Int) ≤ 64 := (by exact_mod_cast this); omega)
      have hkb := Si.Kb.sib (h := h.toNat) (l := l.toNat) (i := n) (by omega) (by omega) hoi1 hoi2
      rw [← hix] at hkb
      have ht16 := Si.tree_16 s l.toNat (ixor (n / 2 ^ (min l.toNat 64)) 1)
      refine wp_skip ?_
      refine hK21 _ _ ?_
      clear hK21
      refine wp_seq_k ?_; intro K22 hK22
      refine wp_block ?_
      refine wp_seq_k ?_; intro K23 hK23
      refine reg hF hS (sq rfl (q_move rfl) <|
        sq rfl (q_assign rfl) <|
        sq_end) ?_
      clear hF hS; intro a w hF hS
      refine hK23 _ _ ?_
      clear hK23
      refine wp_seq_k ?_; intro K24 hK24
      refine regl ?_
      refine wpl_sq hF hS (sq rfl (q_move rfl) <|
        sq rfl (q_move rfl) <|
        sq rfl (q_move rfl) <|
        sq rfl (q_move rfl) <|
        sq rfl (q_shri rfl rfl (by omega)) <|
        sq rfl (q_xori rfl rfl) <|
        sq_end) ?_
      clear hF hS; intro a w hF hS
      refine wpl_ef hF hS rfl (ef_callvx fn44 rfl rfl (List.Perm.refl _) (by exact (nodes_ct s e12 e23 e34 bm5 hs9 _ _ hg1 64 _ l.toNat (ixor (n / 2 ^ (min l.toNat 64)) 1) es ec (by omega) (by omega) (by omega) hkb hOkL ))) ?_
      clear hF hS; rintro _ _ _ a w ⟨_, _, rfl, rfl, ⟨es31, ec32, rfl, rfl, hk33, rfl⟩⟩ hF hS
      replace hS : St _ [_, _] [_, _, _, _, _, _] _ := hS
      refine wpl_ef hF hS rfl (ef_allocA ty23) ?_
      clear hF hS; rintro _ _ _ a w ⟨b34, rfl, rfl, rfl⟩ hF hS
      rw [show List.replicate 16 (Value.int .u8 0) = (List.replicate 16 (0 : UInt8)).map vb from by rw [List.map_replicate] <;> rfl] at hS
      refine wpl_ef hF hS rfl (ef_storeW ty23 0 rfl rfl rfl rfl bQ oQ bQ) ?_
      clear hF hS; rintro _ _ _ a w ⟨rfl, rfl, rfl⟩ hF hS
      replace hS : St _ [_, _] [_, _, _, _, _, _, _] _ := hS
      refine wpList_nil ?_
      refine hK24 _ _ ?_
      clear hK24
      refine regl ?_
      refine wpl_sq hF hS (sq rfl (q_sla ty23 ty5 rfl) <|
        sq_end) ?_
      clear hF hS; intro a w hF hS
      obtain ⟨z35, hz36, hS⟩ := St.freezeBlk (h0 := fun _ => rfl) (f := vb) (p := fun _ => True) (m := 16) hS (by first | (symm; assumption) | omega | (simp [*]; done)) (by decide) (fun _ _ => trivial)
      replace hS := hS.perm (.cons _ (.cons _ (.cons _ (.swap _ _ _))))
      replace hS := hS.perm (.cons _ (.cons _ (.swap _ _ _)))
      replace hS := hS.perm (.cons _ (.swap _ _ _))
      replace hS := hS.perm (.swap _ _ _)
      replace hS := hS.perm (.cons _ (.cons _ (.cons _ (.cons _ (.swap _ _ _)))))
      replace hS := hS.perm (.cons _ (.cons _ (.cons _ (.swap _ _ _))))
      replace hS := hS.perm (.cons _ (.cons _ (.swap _ _ _)))
      replace hS := hS.perm (.cons _ (.swap _ _ _))
      replace hS : St _ [_, _, _] [_, _, _, _, _, _] _ := hS
      refine wpl_ef hF hS rfl (ef_callxN 2 fn25 rfl (by exact (bwrite_ct _ _ _ _ _ _ (by first | assumption | exact .inl rfl | exact .inr rfl) (by first | omega | (simp; omega) | (simp [*]; omega)) hz36 (.inr (by simp))))) ?_
      clear hF hS; rintro _ _ _ a w ⟨_, _, rfl, rfl, ⟨u38, rfl, rfl⟩⟩ hF hS
      replace hS : St _ [_, _, _] [_, _, _, _, _, _] _ := hS
      refine wpList_nil ?_
      refine hK22 _ _ ?_
      clear hK22
      refine reg hF hS (sq rfl (q_addi rfl rfl (by omega)) <|
        sq rfl (q_move rfl) <|
        sq_end) ?_
      clear hF hS; intro a w hF hS
      replace hS := hS.perm (.cons _ (.swap _ _ _))
      replace hS := hS.perm (.swap _ _ _)
      replace hS := hS.perm (.cons _ (.cons _ (.swap _ _ _)))
      replace hS := hS.perm (.cons _ (.swap _ _ _))
      replace hS := hS.perm (.cons _ (.cons _ (.cons _ (.swap _ _ _))))
      replace hS := hS.perm (.cons _ (.cons _ (.swap _ _ _)))
      replace hS := hS.perm (.cons _ (.cons _ (.cons _ (.cons _ (.swap _ _ _)))))
      replace hS := hS.perm (.cons _ (.cons _ (.cons _ (.swap _ _ _))))
      replace hS := hS.keep (sQ.n) sQ
      refine ⟨(l + 1, u38, es31, ec32), ?_, ?_, hF.sub ⟨rfl, rfl, rfl, rfl, rfl, trivial⟩, ?_⟩
      ·(try dsimp only); omega
      ·exact ⟨by omega, by omega, hk33⟩
      ·(try dsimp only); rw [Si.cat_next hl0, ← List.append_assoc]; rw [hix] at hS; exact hS
     ·have hlh : l = h := by omega
      rw [hlh] at hS hl2
      refine wp_exit ?_
      refine hK18 _ _ ?_
      clear hK18
      refine wp_seq_k ?_; intro K25 hK25
      refine regl ?_
      replace hS := hS.perm (.cons _ (.cons _ (.cons _ (.swap _ _ _))))
      replace hS := hS.perm (.cons _ (.cons _ (.swap _ _ _)))
      replace hS := hS.perm (.cons _ (.swap _ _ _))
      replace hS := hS.perm (.swap _ _ _)
      replace hS := hS.perm (.cons _ (.cons _ (.cons _ (.cons _ (.swap _ _ _)))))
      replace hS := hS.perm (.cons _ (.cons _ (.cons _ (.swap _ _ _))))
      replace hS := hS.perm (.cons _ (.cons _ (.swap _ _ _)))
      replace hS := hS.perm (.cons _ (.swap _ _ _))
      replace hS : St _ [_, _] [_, _, _, _, _, _] _ := hS
      refine wpl_ef hF hS rfl (ef_callxN 2 fn29 rfl (by exact (bstring_ct _ _ _ _ (by first | omega | (simp; omega) | (simp [*]; omega)) (by first | omega | (simp; omega) | (simp [*]; omega)) ))) ?_
      clear hF hS; rintro _ _ _ a w ⟨_, _, rfl, rfl, rfl, rfl, rfl⟩ hF hS
      replace hS : St _ [_, _] [_, _, _, _, _, _] _ := hS
      refine wpl_sq hF hS (sq rfl (q_assign rfl) <|
        sq rfl (q_assign rfl) <|
        sq_end) ?_
      clear hF hS; intro a w hF hS
      refine wpList_nil ?_
      refine hK25 _ _ ?_
      clear hK25
      refine wp_ret ?_
      exact fn_ret (rs := [.tmp 8, .tmp 9]) rfl hF hS (vs := [_, _]) ⟨rfl, rfl, trivial⟩ zQ zQ (by unfold Si.sigS Si.sigE; rw [if_pos hok, if_pos hok, if_pos hoi, if_pos hoi]; rfl)

end Go.Proofs.YtlopocmpcmkdkaaDoor
