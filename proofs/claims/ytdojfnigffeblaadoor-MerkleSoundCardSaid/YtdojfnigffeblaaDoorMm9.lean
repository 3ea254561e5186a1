/- A text of a proof over this seat: walks over the program's functions and the plain laws that they need. -/
import Derived.Test.YtdojfnigffeblaaDoorMm8
import Derived.Test.YtdojfnigffeblaaDoorMkA
import Derived.Test.YtdojfnigffeblaaDoorFwD
import Derived.Test.YtdojfnigffeblaaDoorGuA
import Derived.Test.YtdojfnigffeblaaDoorFwB
set_option linter.all false
namespace Go.Proofs.YtdojfnigffeblaaDoor
open Go.Fw
theorem fn13 : FnOk Tryd.prog 13 := ⟨_, Tryd.func13, rfl, by kernel_rfl⟩
theorem fn18 : FnOk Tryd.prog 18 := ⟨_, Tryd.func18, rfl, by kernel_rfl⟩
theorem fn34 : FnOk Tryd.prog 34 := ⟨_, Tryd.func34, rfl, by kernel_rfl⟩
attribute [local irreducible] Sha.sum Sha.mac Sha.ofD Wi.int Wi.ints Wi.bytes Sha.inp Mk.half Lib.compareBytes Mk.frm Mk.rootD

/-- A proof whose leaves are copied. -/
def PmR (q : Mk.Pf) (sv : Value) : Value → List PH → List Res → Prop := fun r zs hs => ∃ lv z, r = .agg [vi q.fst, vi q.sz, lv, sv].toArray ∧ Sl encF z lv q.lv ∧ zs = [z] ∧ hs = []

set_option maxRecDepth 4000 in
set_option maxHeartbeats 2000000 in
theorem proof_ct (q : Mk.Pf) (lv sv : Value) (hl9 : q.lv.length < 1048576) (w : World) (hb : Sl encF (ph w) lv q.lv) (hsd : Sl (encA 16) (ph w) sv q.sd)  : Ct Tryd.prog 30 [.agg [vi q.fst, vi q.sz, lv, sv].toArray] w (PmR q sv) := by
 refine fn_enter Tryd.func30 rfl Tryd.ntmps30 (Nat.le_of_ble_eq_true rfl) fun a hF hS => ?_
 have hbl := hb.1
 refine wp_seq_k ?_; intro K1 hK1
 refine regl ?_
 refine wpl_ef hF hS rfl (ef_boxA rfl) ?_
 clear hF hS; rintro _ _ _ a w ⟨b1, rfl, rfl, rfl⟩ hF hS
 refine wpl_ef hF hS rfl (ef_allocA ty50) ?_
 clear hF hS; rintro _ _ _ a w ⟨b2, rfl, rfl, rfl⟩ hF hS
 refine wpList_nil ?_
 refine hK1 _ _ ?_
 clear hK1
 refine wp_seq_k ?_; intro K2 hK2
 revert hS; revert hF; apply regJ (J := J2 (α0 := Value) (α1 := PH) 13 _ _ _ _ _) #[false, false, false, false, false, false, false, false, false, false, false] 11 mixed rfl rfl
 ·intro w hF hS
  refine goW_take 0 _ rfl kQ rfl hF (hS.keep sQ zQ) (q_fieldAddr ty54 rfl rfl (s' := 0) kQ) ?_
  clear hF; intro a hF
  refine goW_take 1 _ rfl kQ rfl hF (hS.keep sQ (sQ.n)) (q_ld_blk1 ty3 0 rfl rfl rfl rfl) ?_
  clear hF; intro a hF
  refine goW_take 2 _ rfl kQ rfl hF (hS.keep sQ zQ) (q_fieldAddr ty54 rfl rfl (s' := 0) kQ) ?_
  clear hF; intro a hF
  refine goW_take 3 _ rfl kQ rfl hF (hS.keep sQ (sQ.n)) (q_ld_blk1 ty3 0 rfl rfl rfl rfl) ?_
  clear hF; intro a hF
  refine goW_take 4 _ rfl kQ rfl hF (hS.keep sQ zQ) (q_fieldAddr ty54 rfl rfl (s' := 0) kQ) ?_
  clear hF; intro a hF
  refine goW_take 5 _ rfl kQ rfl hF (hS.keep sQ (sQ.n)) (q_ld_blk1 ty24 0 rfl rfl rfl rfl) ?_
  clear hF; intro a hF
  refine goW_take 7 _ rfl kQ rfl hF (hS.keep sQ zQ) (q_fieldAddr ty54 rfl rfl (s' := 0) kQ) ?_
  clear hF; intro a hF
  refine goW_take 8 _ rfl kQ rfl hF (hS.keep sQ (sQ.n)) (q_ld_blk1 ty48 0 rfl rfl rfl rfl) ?_
  clear hF; intro a hF
  refine gQ 6 rfl rfl hF hS rfl (ef_call fn13 rfl (fun w hS => own_ct _ _ hl9 w (Sl.mono (hS.le zin0) hb))) ?_
  clear hF hS; rintro v_1_6 _ _ a w ⟨_, _, rfl, rfl, ⟨z_1_6, hz_1_6, rfl, rfl⟩⟩ hF hS
  refine ⟨⟨.inr (hS.k1 (sQ.n)), .inr hS.k0, iQ, iQ, .inr (hS.k1 (sQ.n)), .inr hS.k0, .inr (hS.k1 (sQ.n)), .inr hS.k0, trivial⟩, ?_⟩
  refine goW_take 9 _ rfl kQ rfl hF (hS.keep sQ zQ) (q_buildS1 ty50 4 kQ rfl rfl (oc_cons rfl (oc_cons rfl (oc_cons (sl_one' hz_1_6) (oc_cons (sl_one' hsd) oc_nil)))) rfl rfl) ?_
  clear hF; intro a hF
  refine gQ 10 rfl rfl hF hS rfl (ef_storeW ty50 0 rfl rfl rfl rfl bQ (oc_cons rfl (oc_cons rfl (oc_cons (sl_one' hz_1_6) (oc_cons (sl_one' hsd) oc_nil)))) bQ) ?_
  clear hF hS; rintro _ _ _ a w ⟨rfl, rfl, rfl⟩ hF hS
  refine ⟨⟨iQ, iQ, iQ, iQ, iQ, iQ, iQ, iQ, iQ, trivial⟩, ?_⟩
  exact goW_done kQ (j2_mk v_1_6 z_1_6 ((And.intro hz_1_6 trivial)) (hF.sub (L' := [(2, _)]) ⟨rfl, trivial⟩) hS)
 rintro a w ⟨v_1_6, z_1_6, ⟨hz_1_6, -⟩, hF, hS⟩
 (try dsimp only at hF); (try dsimp only at hS)
 refine hK2 _ _ ?_
 clear hK2
 refine wp_ret ?_
 exact fn_ret (rs := [.cell 2 50]) rfl hF hS (vs := [_]) ⟨⟨_, _, _, _, _, _, _, rfl, List.mem_of_getElem? (i := 0) rfl, ty50, .inl ⟨rfl, bQ, rfl⟩⟩, trivial⟩ (zs' := [_]) (hs' := []) (List.singleton_sublist.2 (by simp)) zQ ⟨_, _, rfl, hz_1_6, rfl, rfl⟩

set_option maxRecDepth 4000 in
set_option maxHeartbeats 2000000 in
theorem coll_ct (v : Value) (ls : List Mk.Lf) (q : Mk.Pf) (lv sv : Value) (hl : ls.length ≤ 4096) (hx : ∀ x ∈ ls, x.1.length < 1048576 ∧ x.2.length < 1048576) (hy : ∀ x ∈ q.lv, x.1.length < 1048576 ∧ x.2.length < 1048576) (hql : q.lv.length < 1048576) (w : World) (hb1 : Sl encF (ph w) v ls) (hb : Sl encF (ph w) lv q.lv) (hsd : Sl (encA 16) (ph w) sv q.sd) {fz0 : Nat × Nat} {bt0 : TypeId} (hg0 : w.heap[0]? = some (.cells (Sha.kc.map vw).toArray bt0 fz0)) : Ct Tryd.prog 37 [v, .agg [vi q.fst, vi q.sz, lv, sv].toArray] w (fun r _ _ => r = .bool (Mk.coll ls q)) := by
 refine fn_enter Tryd.func37 rfl Tryd.ntmps37 (Nat.le_of_ble_eq_true rfl) fun a hF hS => ?_
 obtain ⟨qf, qs, ql, qd⟩ := q
 dsimp only at hF hb hsd
 have hbl := hb.1
 have hdl : qd.length ≤ 140737488355328 := hsd.1
 have hs16 : ∀ d ∈ qd, d.length = 16 := sl_A hsd
 dsimp only at hy hql
 have hbl1 := hb1.1
 obtain ⟨σ1, hσ1⟩ : ∃ σ, σ = Mk.rrR 0 ls [] ls.length := ⟨_, rfl⟩
 have hTL : Mk.txL ls = σ1.2.1 := by rw [hσ1]; rfl
 have hb0 := Mk.tx_bd (q := ⟨qf, qs, ql, qd⟩) hl hx hy hs16
 have hb0a := hb0.2.1
 have hb0b := hb0.2.2
 refine wp_seq_k ?_; intro K1 hK1
 refine regl ?_
 refine wpl_ef hF hS rfl (ef_boxA rfl) ?_
 clear hF hS; rintro _ _ _ a w ⟨b1, rfl, rfl, rfl⟩ hF hS
 refine wpl_sq hF hS (sq rfl (q_assign rfl) <|
   sq_end) ?_
 clear hF hS; intro a w hF hS
 refine wpList_nil ?_
 refine hK1 _ _ ?_
 clear hK1
 refine wp_seq_k ?_; intro K2 hK2
 refine regl ?_
 refine wpl_sq hF hS (sq rfl (q_buildP (places := [(0, 1), (1, 1), (2, 1), (3, 1)]) (cells := [.slice none 0 0, .slice none 0 0, .int .i64 0, .bool false]) ty102 kQ rfl (by rfl)) <|
   sq_end) ?_
 clear hF hS; intro a w hF hS
 refine wpl_ef hF hS rfl (ef_boxA rfl) ?_
 clear hF hS; rintro _ _ _ a w ⟨b2, rfl, rfl, rfl⟩ hF hS
 refine wpl_sq hF hS (sq rfl (q_assign rfl) <|
   sq_end) ?_
 clear hF hS; intro a w hF hS
 refine wpList_nil ?_
 replace hS := hS.nilRow 9 1
 refine hK2 _ _ ?_
 clear hK2
 refine wp_seq_k ?_; intro K3 hK3
 refine regl ?_
 refine wpl_sq hF hS (sq rfl (q_move rfl) <|
   sq rfl (q_move rfl) <|
   sq rfl (q_move rfl) <|
   sq rfl (q_len_sl ty24 hb1 rfl) <|
   sq_end) ?_
 clear hF hS; intro a w hF hS
 replace hS := hS.perm (.swap _ _ _)
 replace hS : St _ [] [_, _, _] _ := hS
 refine wpl_ef hF hS rfl (ef_callxN 2 fn52 rfl (by exact (troot_ct _ (.slice none 0 0) (.slice none 0 0) _ ls 0 [] _ ls.length (by omega) hx (fun _ h => by cases h) (by omega) rfl (by omega) _ _ _ _ hb1 sl_nil hg0 ))) ?_
 clear hF hS; rintro _ _ _ a w ⟨_, _, rfl, rfl, ⟨tv1, rfl, rfl, rfl⟩⟩ hF hS
 rw [← hσ1] at hF hS
 replace hS : St _ [] [_, _, _] _ := hS
 refine wpList_nil ?_
 refine hK3 _ _ ?_
 clear hK3
 refine wp_seq_k ?_; intro K4 hK4
 refine regl ?_
 refine wpl_sq hF hS (sq rfl (q_fieldAddr ty54 rfl rfl (s' := 0) kQ) <|
   sq rfl (q_ld_blk1 ty48 2 rfl rfl rfl rfl) <|
   sq rfl (q_build1 ty102 4 kQ rfl (sl_one' hsd) rfl (by decide)) <|
   sq_end) ?_
 clear hF hS; intro a w hF hS
 refine wpl_ef hF hS rfl (ef_boxA rfl) ?_
 clear hF hS; rintro _ _ _ a w ⟨b5, rfl, rfl, rfl⟩ hF hS
 refine wpl_sq hF hS (sq rfl (q_assign rfl) <|
   sq_end) ?_
 clear hF hS; intro a w hF hS
 refine wpList_nil ?_
 replace hS := hS.nilRow 9 1
 refine hK4 _ _ ?_
 clear hK4
 obtain ⟨hs0, hhs0, hS⟩ : ∃ h, h = _ ∧ St _ _ h _ := ⟨_, rfl, hS⟩
 refine wp_cutx (γ := Value × Mk.Tx × Nat × Bool) (fun (gg : Value × Mk.Tx × Nat × Bool) => match gg with | (tw, T2, u2, s2) => []) [(5, _), (6, _)] (fun (gg : Value × Mk.Tx × Nat × Bool) => match gg with | (tw, T2, u2, s2) => ((hs0.set 1 (.blk b5 102 [tw, sv, vi ((u2 : Nat) : Int), vt (s2)])).set 0 (.row tw 9 1 (T2).length ((T2).map vs)))) (fun (gg : Value × Mk.Tx × Nat × Bool) => match gg with | (tw, T2, u2, s2) => T2 = Mk.txP ⟨qf, qs, ql, qd⟩) (hF.sub ⟨rfl, rfl, trivial⟩) hS ?_ ?_
 ·subst hhs0
  refine wp_seq_k ?_; intro K5 hK5
  refine regl ?_
  refine wpl_sq hF hS (sq rfl (q_fieldAddr ty54 rfl rfl (s' := 0) kQ) <|
    sq rfl (q_ld_blk1 ty3 4 rfl rfl rfl rfl) <|
    sq rfl (q_gei rfl rfl) <|
    sq rfl (q_move rfl) <|
    sq_end) ?_
  clear hF hS; intro a w hF hS
  refine wpl_and 3 25 3 hF hS rfl rfl rfl rfl rfl (fun hg => have hg := (by first | exact of_decide_eq_true hg | exact hg); sq_go 25 rfl rfl rfl (q_fieldAddr ty54 rfl rfl (s' := 0) kQ) <|
    sq_go 25 rfl rfl rfl (q_ld_blk1 ty3 4 rfl rfl rfl rfl) <|
    sq_go 25 rfl rfl rfl (q_lei rfl rfl) <|
    sq_end) rfl rfl ?_
  clear hF hS; intro a w hF hS
  refine wpl_sq hF hS (sq rfl (q_move rfl) <|
    sq_end) ?_
  clear hF hS; intro a w hF hS
  refine wpl_and 8 30 3 hF hS rfl rfl rfl rfl rfl (fun hg => have hg := hg; sq_go 30 rfl rfl rfl (q_fieldAddr ty54 rfl rfl (s' := 0) kQ) <|
    sq_go 30 rfl rfl rfl (q_ld_blk1 ty3 4 rfl rfl rfl rfl) <|
    sq_go 30 rfl rfl rfl (q_gei rfl rfl) <|
    sq_end) rfl rfl ?_
  clear hF hS; intro a w hF hS
  refine wpl_sq hF hS (sq rfl (q_move rfl) <|
    sq_end) ?_
  clear hF hS; intro a w hF hS
  refine wpl_and 13 35 5 hF hS rfl rfl rfl rfl rfl (fun hg => have hg := hg; sq_go 35 rfl rfl rfl (q_fieldAddr ty54 rfl rfl (s' := 0) kQ) <|
    sq_go 35 rfl rfl rfl (q_ld_blk1 ty3 4 rfl rfl rfl rfl) <|
    sq_go 35 rfl rfl rfl (q_fieldAddr ty54 rfl rfl (s' := 0) kQ) <|
    sq_go 35 rfl rfl rfl (q_ld_blk1 ty3 4 rfl rfl rfl rfl) <|
    sq_go 35 rfl rfl rfl (q_lei rfl rfl) <|
    sq_end) rfl rfl ?_
  clear hF hS; intro a w hF hS
  refine wpl_sq hF hS (sq rfl (q_move rfl) <|
    sq_end) ?_
  clear hF hS; intro a w hF hS
  refine wpl_and 20 42 9 hF hS rfl rfl rfl rfl rfl (fun hg => have hg := hg; sq_go 42 rfl rfl rfl (q_fieldAddr ty54 rfl rfl (s' := 0) kQ) <|
    sq_go 42 rfl rfl rfl (q_ld_blk1 ty24 4 rfl rfl rfl rfl) <|
    sq_go 42 rfl rfl rfl (q_len_sl ty24 hb rfl) <|
    sq_go 42 rfl rfl rfl (q_fieldAddr ty54 rfl rfl (s' := 0) kQ) <|
    sq_go 42 rfl rfl rfl (q_ld_blk1 ty3 4 rfl rfl rfl rfl) <|
    sq_go 42 rfl rfl rfl (q_fieldAddr ty54 rfl rfl (s' := 0) kQ) <|
    sq_go 42 rfl rfl rfl (q_ld_blk1 ty3 4 rfl rfl rfl rfl) <|
    sq_go 42 rfl rfl rfl (q_subiW rfl rfl) <|
    sq_go 42 rfl rfl rfl (q_lei rfl rfl) <|
    sq_end) rfl rfl ?_
  clear hF hS; intro a w hF hS
  refine wpList_nil ?_
  refine hK5 _ _ ?_
  clear hK5
  refine wp_if hF rfl (fun hc1 => ?_) (fun hc1 => ?_)
  ·(try simp only [Bool.or_eq_true, Bool.and_eq_true, Bool.or_eq_false_iff, Bool.and_eq_false_iff, decide_eq_true_eq, decide_eq_false_iff_not, Bool.not_eq_true', Bool.not_eq_false'] at hc1)
   have hw := wr_in (n := qs - qf) (by omega)
   rw [hw] at hc1
   have hokc : Mk.okC ⟨qf, qs, ql, qd⟩ := ⟨by dsimp only; omega, by dsimp only; omega, by dsimp only; omega, by dsimp only; omega, by dsimp only; omega⟩
   obtain ⟨fn, rfl⟩ : ∃ fn : Nat, qf = fn := ⟨qf.toNat, by omega⟩
   obtain ⟨zn, rfl⟩ : ∃ zn : Nat, qs = zn := ⟨qs.toNat, by omega⟩
   obtain ⟨σ2, hσ2⟩ : ∃ σ, σ = Mk.rrR fn ql qd zn := ⟨_, rfl⟩
   refine regl ?_
   refine wpl_sq hF hS (sq rfl (q_move rfl) <|
     sq rfl (q_fieldAddr ty54 rfl rfl (s' := 0) kQ) <|
     sq rfl (q_ld_blk1 ty24 4 rfl rfl rfl rfl) <|
     sq rfl (q_fieldAddr ty54 rfl rfl (s' := 0) kQ) <|
     sq rfl (q_ld_blk1 ty3 4 rfl rfl rfl rfl) <|
     sq rfl (q_fieldAddr ty54 rfl rfl (s' := 0) kQ) <|
     sq rfl (q_ld_blk1 ty3 4 rfl rfl rfl rfl) <|
     sq_end) ?_
   clear hF hS; intro a w hF hS
   replace hS := hS.perm (.swap _ _ _)
   replace hS : St _ [] [_, _, _, _, _] _ := hS
   refine wpl_ef hF hS rfl (ef_callxN 2 fn52 rfl (by exact (troot_ct _ _ (.slice none 0 0) _ ql fn qd _ zn hql hy hs16 (by omega) rfl (by omega) _ _ _ _ hb hsd hg0 ))) ?_
   clear hF hS; rintro _ _ _ a w ⟨_, _, rfl, rfl, ⟨tv2, rfl, rfl, rfl⟩⟩ hF hS
   rw [← hσ2] at hF hS
   replace hS : St _ [] [_, _, _, _, _] _ := hS
   refine wpList_nil ?_
   replace hS := hS.perm (.swap _ _ _)
   replace hS := hS.keep zQ sQ
   refine ⟨(tv2, σ2.2.1, σ2.2.2.1, σ2.2.2.2), ?_, hF.sub ⟨rfl, rfl, trivial⟩, ?_⟩
   ·rw [Mk.txP_t hokc, hσ2]
   ·exact hS
  ·(try simp only [Bool.or_eq_true, Bool.and_eq_true, Bool.or_eq_false_iff, Bool.and_eq_false_iff, decide_eq_true_eq, decide_eq_false_iff_not, Bool.not_eq_true', Bool.not_eq_false'] at hc1)
   have hokc : ¬ Mk.okC ⟨qf, qs, ql, qd⟩ := fun h9 => by
    obtain ⟨g1, g2, g3, g4, g5⟩ := h9
    dsimp only at g1 g2 g3 g4 g5
    have hw := wr_in (n := qs - qf) (by omega)
    rw [hw] at hc1
    omega
   refine wp_skip ?_
   refine ⟨((.slice none 0 0), [], 0, false), ?_, hF.sub ⟨rfl, rfl, trivial⟩, ?_⟩
   ·rw [Mk.txP_f hokc]
   ·exact hS
 clear hF hS; rintro ⟨tw, T2, u2, s2⟩ a w hfact hF hS
 subst hhs0; (try dsimp only at hfact); (try dsimp only at hF); (try dsimp only at hS)
 have hT2 := hfact
 replace hS : St _ [] [_, _, _, _, _] _ := hS
 have hb0c : T2.length ≤ 8193 := by rw [hT2]; exact hb0b
 have hb0d : σ1.2.1.length ≤ 8193 := by rw [← hTL]; exact hb0a
 refine wp_seq_k ?_; intro K6 hK6
 revert hS; revert hF; apply regJ (J := J3 (α0 := Value) (α1 := Value) (α2 := Value) 112 _ _ _ _ _) #[false, false, false, false, false, false, false, false, false, false, false, false] 12 mixed rfl rfl
 ·intro w hF hS
  refine goW_take 1 _ rfl kQ rfl hF (hS.keep sQ zQ) (q_move rfl) ?_
  clear hF; intro a hF
  refine goW_take 2 _ rfl kQ rfl hF (hS.keep sQ zQ) (q_nilCheck rfl) ?_
  clear hF; intro a hF
  refine goW_take 3 _ rfl kQ rfl hF (hS.keep sQ zQ) (q_fieldAddr ty102 rfl rfl (s' := 0) kQ) ?_
  clear hF; intro a hF
  refine goW_take 4 _ rfl kQ rfl hF (hS.keep sQ (zQ.k.n.n)) (q_ld_blk1 ty47 0 rfl rfl rfl rfl) ?_
  clear hF; intro a hF
  refine goW_take 6 _ rfl kQ rfl hF (hS.keep sQ zQ) (q_move rfl) ?_
  clear hF; intro a hF
  refine goW_take 7 _ rfl kQ rfl hF (hS.keep sQ zQ) (q_nilCheck rfl) ?_
  clear hF; intro a hF
  refine goW_take 8 _ rfl kQ rfl hF (hS.keep sQ zQ) (q_fieldAddr ty102 rfl rfl (s' := 0) kQ) ?_
  clear hF; intro a hF
  refine goW_take 9 _ rfl kQ rfl hF (hS.keep sQ (zQ.k.n)) (q_ld_blk1 ty47 0 rfl rfl rfl rfl) ?_
  clear hF; intro a hF
  refine gQ 0 rfl rfl hF hS rfl (ef_bslice0 ty47 ty9) ?_
  clear hF hS; rintro v_6_0 _ _ a w ⟨rfl, rfl⟩ hF hS
  refine ⟨⟨.inr (hS.k1 (zQ.k.n.n)), .inr hS.k0, .inr hS.k0, .inr hS.k0, .inr (hS.k1 (zQ.k.n.n.n)), .inr hS.k0, .inr hS.k0, .inr hS.k0, trivial⟩, ?_⟩
  refine gQ 5 rfl rfl hF hS rfl (ef_append ty47 ty9 0 rfl rfl rfl (src_row ty47 (k := 4) rfl oQ) bQ rfl (by decide)) ?_
  clear hF hS; rintro v_6_5 _ _ a w ⟨rfl, rfl⟩ hF hS
  refine ⟨⟨.inr (hS.k1 (zQ.k.n.n)), .inr hS.k0, .inr hS.k0, .inr hS.k0, iQ, iQ, .inr hS.k0, .inr hS.k0, trivial⟩, ?_⟩
  refine gQ 10 rfl rfl hF hS rfl (ef_append ty47 ty9 0 rfl rfl rfl (src_row ty47 (k := 1) rfl oQ) bQ rfl (by decide)) ?_
  clear hF hS; rintro v_6_10 _ _ a w ⟨rfl, rfl⟩ hF hS
  refine ⟨⟨iQ, iQ, .inr hS.k0, .inr hS.k0, iQ, iQ, .inr hS.k0, .inr hS.k0, trivial⟩, ?_⟩
  refine goW_take 11 _ rfl kQ rfl hF (hS.keep sQ zQ) (q_assign rfl) ?_
  clear hF; intro a hF
  exact goW_done kQ (j3_mk v_6_0 v_6_5 v_6_10 (trivial) (hF.sub (L' := [(7, _)]) ⟨rfl, trivial⟩) hS)
 rintro a w ⟨v_6_0, v_6_5, v_6_10, -, hF, hS⟩
 (try dsimp only at hF); (try dsimp only at hS)
 obtain ⟨tx, htx⟩ : ∃ tx, tx = (Mk.txL ls ++ Mk.txP ⟨qf, qs, ql, qd⟩) := ⟨_, rfl⟩
 replace hS := hS.rowEq (m' := tx.length) (cs' := tx.map vs) (by rw [htx, List.length_append, hTL, ← hT2, Nat.zero_add]) (by rw [htx, List.map_append, hTL, ← hT2, List.nil_append])
 have htb := Mk.tx_bd (q := ⟨qf, qs, ql, qd⟩) hl hx hy hs16
 rw [← htx] at htb
 have htl : tx.length ≤ 16386 := by rw [htx, List.length_append]; omega
 have htb1 := htb.1
 obtain ⟨zx, hzx, hS⟩ := St.freezeV (h0 := fun _ => rfl) (f := vs) (p := fun s => s.length ≤ 140737488355328) (xs := tx) hS rfl (by omega) (fun x hx9 => by have := htb1 x hx9; omega)
 replace hS : St _ [_] [_, _, _, _, _] _ := hS
 refine hK6 _ _ ?_
 clear hK6
 refine wp_seq_k ?_; intro K7 hK7
 refine reg hF hS (sq rfl (q_assign rfl) <|
   sq_end) ?_
 clear hF hS; intro a w hF hS
 replace hS := hS.nilRow 29 16
 refine hK7 _ _ ?_
 clear hK7
 refine wp_seq_k ?_; intro K8 hK8
 refine wp_seq_k ?_; intro K9 hK9
 refine reg hF hS (sq rfl (q_assign rfl) <|
   sq_end) ?_
 clear hF hS; intro a w hF hS
 refine hK9 _ _ ?_
 clear hK9
 refine wp_block ?_
 obtain ⟨hs0, hhs0, hS⟩ : ∃ h, h = _ ∧ St _ _ h _ := ⟨_, rfl, hS⟩
 refine wp_loopx (γ := Value × Int) ((Value.slice none 0 0), 0) (fun (gg : Value × Int) => match gg with | (u, i) => [(8, u), (9, vi i)]) [(7, _)] (fun (gg : Value × Int) => match gg with | (u, i) => (hs0.set 0 (.row u 29 16 (((tx.take i.toNat).map Mk.dg16)).length ((((tx.take i.toNat).map Mk.dg16)).flatten.map vb)))) (fun (gg : Value × Int) => match gg with | (u, i) => 0 ≤ i ∧ i ≤ tx.length ∧ Mk.noC tx i.toNat) (fun (gg : Value × Int) => match gg with | (u, i) => (tx.length - i).toNat) (hF.sub ⟨rfl, rfl, rfl, trivial⟩) (by subst hhs0; exact hS) (by exact ⟨Int.le_refl _, by omega, fun j hj => absurd hj (by simp)⟩) ?_
 clear hF hS; rintro ⟨u, i⟩ a w hfact hF hS
 subst hhs0; (try dsimp only at hfact); (try dsimp only at hF); (try dsimp only at hS)
 obtain ⟨hi0, hi1, hno⟩ := hfact
 replace hS : St _ [_] [_, _, _, _, _, _] _ := hS
 refine wp_seq_k ?_; intro K10 hK10
 refine wp_seq_k ?_; intro K11 hK11
 refine reg hF hS (sq rfl (q_move rfl) <|
   sq rfl (q_move rfl) <|
   sq rfl (q_len_sl ty47 hzx rfl) <|
   sq rfl (q_lti rfl rfl) <|
   sq_end) ?_
 clear hF hS; intro a w hF hS
 refine hK11 _ _ ?_
 clear hK11
 refine wp_ifd hF rfl (fun hc2 => ?_) (fun hc2 => ?_)
 ·have hti := htb1 (tx.getD i.toNat []) (Mk.getD_inT (by omega))
  have hg16 := Mk.dg16_len (tx.getD i.toNat [])
  have hdli := Mk.dgs_len (t := tx) (i := i.toNat) (by omega)
  have hg17 : (List.take 16 (Sha.sum (tx.getD i.toNat []))).length = 16 := hg16
  refine wp_skip ?_
  refine hK10 _ _ ?_
  clear hK10
  refine wp_seq_k ?_; intro K12 hK12
  refine wp_block ?_
  refine wp_seq_k ?_; intro K13 hK13
  refine regl ?_
  refine wpl_sq hF hS (sq rfl (q_move rfl) <|
    sq rfl (q_move rfl) <|
    sq rfl (q_move rfl) <|
    sq rfl (q_idx_sl ty47 ty9 hzx rfl rfl (by omega)) <|
    sq rfl (q_ld_S ty9 hzx (.inr (by simp)) rfl rfl (by omega)) <|
    sq_end) ?_
  clear hF hS; intro a w hF hS
  refine wpl_ef hF hS rfl (ef_s2b ty9 ty39 ty5 rfl (by omega)) ?_
  clear hF hS; rintro v9 _ _ a w ⟨z10, rfl, rfl, hz11⟩ hF hS
  refine wpl_sq hF hS (sq rfl (q_call fn64 rfl (fun w hS => rshort_ct _ _ (by first | with_reducible assumption | omega) w (Sl.mono (hS.le (.inr (by simp))) hz11) (hS.ext _ _ hg0)) (fun _ _ _ h => h)) <|
    sq_end) ?_
  clear hF hS; intro a w hF hS
  refine wpl_ef hF hS rfl (ef_bsliceW ty48 ty29 rfl bQ (by decide) oQ (by decide) (by decide)) ?_
  clear hF hS; rintro v12 _ _ a w ⟨rfl, rfl⟩ hF hS
  replace hS : St _ [_, _] [_, _, _, _, _, _, _] _ := hS
  refine wpl_ef hF hS rfl (ef_append ty48 ty29 1 rfl rfl rfl (src_row ty48 (k := 0) rfl oQ) bQ rfl (by decide)) ?_
  clear hF hS; rintro v14 _ _ a w ⟨rfl, rfl⟩ hF hS
  replace hS : St _ [_, _] [_, _, _, _, _, _, _] _ := hS
  refine wpl_sq hF hS (sq rfl (q_assign rfl) <|
    sq_end) ?_
  clear hF hS; intro a w hF hS
  refine wpList_nil ?_
  replace hS := hS.perm (.swap _ _ _)
  replace hS := hS.rowEq (m' := List.length ((tx.take (i.toNat + 1)).map Mk.dg16)) (cs' := List.map vb (List.flatten ((tx.take (i.toNat + 1)).map Mk.dg16))) (by rw [Mk.dgs_next (by omega), List.length_append]; rfl) (by rw [Mk.dgs_next (by omega), List.flatten_append, List.map_append, List.flatten_singleton]; rfl)
  have hd16 := Mk.dgs_16 (tx.take (i.toNat + 1))
  have hdl := Mk.dgs_len (t := tx) (i := i.toNat + 1) (by omega)
  have hgi : (((tx.take (i.toNat + 1)).map Mk.dg16).getD i.toNat []).length = 16 := hd16 _ (Mk.getD_inD (by omega))
  replace hS : St _ [_, _] [_, _, _, _, _, _, _] _ := hS
  refine hK13 _ _ ?_
  clear hK13
  refine wp_seq_k ?_; intro K14 hK14
  refine reg hF hS (sq rfl (q_assign rfl) <|
    sq_end) ?_
  clear hF hS; intro a w hF hS
  refine hK14 _ _ ?_
  clear hK14
  refine wp_block ?_
  obtain ⟨hs0, hhs0, hS⟩ : ∃ h, h = _ ∧ St _ _ h _ := ⟨_, rfl, hS⟩
  refine wp_loopx (γ := Int) (0) (fun (k : Int) => [(10, vi k)]) [(7, _), (8, _), (9, _)] (fun (k : Int) => hs0) (fun (k : Int) => 0 ≤ k ∧ k ≤ i ∧ ∀ j, j < k.toNat → ¬ (¬ tx.getD i.toNat [] = tx.getD j [] ∧ Mk.dg16 (tx.getD i.toNat []) = Mk.dg16 (tx.getD j []))) (fun (k : Int) => (i - k).toNat) (hF.sub ⟨rfl, rfl, rfl, rfl, trivial⟩) (by subst hhs0; exact hS) (by exact ⟨Int.le_refl _, by omega, fun j hj => absurd hj (by simp)⟩) ?_
  clear hF hS; rintro k a w hfact hF hS
  subst hhs0; (try dsimp only at hfact); (try dsimp only at hF); (try dsimp only at hS)
  obtain ⟨hk0, hk1, hnk⟩ := hfact
  replace hS : St _ [_, _] [_, _, _, _, _, _, _] _ := hS
  have hgk : (((tx.take (i.toNat + 1)).map Mk.dg16).getD k.toNat []).length = 16 := hd16 _ (Mk.getD_inD (by omega))
  refine wp_seq_k ?_; intro K15 hK15
  refine wp_seq_k ?_; intro K16 hK16
  refine reg hF hS (sq rfl (q_move rfl) <|
    sq rfl (q_move rfl) <|
    sq rfl (q_lti rfl rfl) <|
    sq_end) ?_
  clear hF hS; intro a w hF hS
  refine hK16 _ _ ?_
  clear hK16
  refine wp_ifd hF rfl (fun hc3 => ?_) (fun hc3 => ?_)
  ·refine wp_skip ?_
   refine hK15 _ _ ?_
   clear hK15
   refine wp_seq_k ?_; intro K17 hK17
   refine wp_block ?_
   refine wp_seq_k ?_; intro K18 hK18
   refine regq mixed kQ hS ?_
   refine wpq_seg hF (sq rfl (q_move rfl) <|
     sq rfl (q_move rfl) <|
     sq rfl (q_idx_sl ty47 ty9 hzx rfl rfl (by omega)) <|
     sq rfl (q_ld_S ty9 hzx (.inr (by simp)) rfl rfl (by omega)) <|
     sq rfl (q_move rfl) <|
     sq rfl (q_move rfl) <|
     sq rfl (q_idx_sl ty47 ty9 hzx rfl rfl (by omega)) <|
     sq rfl (q_ld_S ty9 hzx (.inr (by simp)) rfl rfl (by omega)) <|
     sq rfl (q_nes rfl rfl) <|
     sq rfl (q_move rfl) <|
     sq_end) ?_
   clear hF; intro a hF
   refine wpq_and 9 101 9 hF rfl rfl rfl rfl rfl (fun hg => have hg := (nd_true hg); sq_go 101 rfl rfl rfl (q_move rfl) <|
     sq_go 101 rfl rfl rfl (q_move rfl) <|
     sq_go 101 rfl rfl rfl (q_idx_row ty48 ty29 0 rfl rfl rfl (by omega)) <|
     sq_go 101 rfl rfl rfl (q_ld_rowA ty29 0 rfl hd16 rfl (by omega) (by decide) rfl) <|
     sq_go 101 rfl rfl rfl (q_move rfl) <|
     sq_go 101 rfl rfl rfl (q_move rfl) <|
     sq_go 101 rfl rfl rfl (q_idx_row ty48 ty29 0 rfl rfl rfl (by omega)) <|
     sq_go 101 rfl rfl rfl (q_ld_rowA ty29 0 rfl hd16 rfl (by omega) (by decide) rfl) <|
     sq_go 101 rfl rfl rfl (q_eqAB ty29 ty5 kQ rfl rfl bQ bQ) <|
     sq_end) rfl rfl ?_
   clear hF; intro a hF
   refine wpq_nil ?_
   clear hS; intro w hS
   refine hK18 _ _ ?_
   clear hK18
   refine wp_if hF rfl (fun hc4 => ?_) (fun hc4 => ?_)
   ·(try simp only [Bool.or_eq_true, Bool.and_eq_true, Bool.or_eq_false_iff, Bool.and_eq_false_iff, decide_eq_true_eq, decide_eq_false_iff_not, Bool.not_eq_true', Bool.not_eq_false'] at hc4)
    rw [Mk.dgs_get (t := tx) (i := i.toNat) (by omega) (by omega), Mk.dgs_get (t := tx) (i := i.toNat) (by omega) (by omega)] at hc4
    refine wp_seq_k ?_; intro K19 hK19
    refine reg hF hS (sq rfl (q_assign rfl) <|
      sq_end) ?_
    clear hF hS; intro a w hF hS
    refine hK19 _ _ ?_
    clear hK19
    refine wp_ret ?_
    exact fn_ret (rs := [.tmp 4]) rfl hF hS (vs := [_]) ⟨rfl, trivial⟩ zQ zQ (by unfold Mk.coll; rw [← htx, Mk.col_t (by omega) (by omega) hc4])
   ·(try simp only [Bool.or_eq_true, Bool.and_eq_true, Bool.or_eq_false_iff, Bool.and_eq_false_iff, decide_eq_true_eq, decide_eq_false_iff_not, Bool.not_eq_true', Bool.not_eq_false'] at hc4)
    rw [Mk.dgs_get (t := tx) (i := i.toNat) (by omega) (by omega), Mk.dgs_get (t := tx) (i := i.toNat) (by omega) (by omega)] at hc4
    refine wp_skip ?_
    refine hK17 _ _ ?_
    clear hK17
    refine reg hF hS (sq rfl (q_move rfl) <|
      sq rfl (q_addi rfl rfl (by omega)) <|
      sq rfl (q_assign rfl) <|
      sq_end) ?_
    clear hF hS; intro a w hF hS
    refine ⟨(k + 1), ?_, ?_, hF.sub ⟨rfl, rfl, rfl, rfl, trivial⟩, ?_⟩
    ·(try dsimp only); omega
    ·exact ⟨by omega, by omega, fun j hj => by
       rcases Nat.lt_or_ge j k.toNat with h9 | h9
       ·exact hnk j h9
       ·obtain rfl : j = k.toNat := by omega
        exact fun h8 => hc4.elim (fun h7 => h8.1 h7) (fun h7 => h7 h8.2)⟩
    ·exact hS
  ·obtain rfl : k = i := by omega
   have hno2 := Mk.noC_step hno hnk
   refine wp_exit ?_
   refine hK12 _ _ ?_
   clear hK12
   refine reg hF hS (sq rfl (q_move rfl) <|
     sq rfl (q_addi rfl rfl (by omega)) <|
     sq rfl (q_assign rfl) <|
     sq_end) ?_
   clear hF hS; intro a w hF hS
   replace hS := hS.keep (sQ.n) (sQ.n.k)
   refine ⟨(v14, k + 1), ?_, ?_, hF.sub ⟨rfl, rfl, rfl, trivial⟩, ?_⟩
   ·(try dsimp only); omega
   ·exact ⟨by omega, by omega, by rw [show (k + 1).toNat = k.toNat + 1 by omega]; exact hno2⟩
   ·(try dsimp only); rw [show (k + 1).toNat = k.toNat + 1 by omega]; exact hS
 ·have hie : i.toNat = tx.length := by omega
  refine wp_exit ?_
  refine hK8 _ _ ?_
  clear hK8
  refine wp_seq_k ?_; intro K20 hK20
  refine reg hF hS (sq rfl (q_assign rfl) <|
    sq_end) ?_
  clear hF hS; intro a w hF hS
  refine hK20 _ _ ?_
  clear hK20
  refine wp_ret ?_
  exact fn_ret (rs := [.tmp 4]) rfl hF hS (vs := [_]) ⟨rfl, trivial⟩ zQ zQ (by unfold Mk.coll; rw [← htx, Mk.col_f (by rw [← hie]; exact hno)])
end Go.Proofs.YtdojfnigffeblaaDoor
