/- A text of a proof over this seat: walks over the program's functions and the plain laws that they need. -/
import Derived.Test.YtdojfnigffeblaaDoorMm8
import Derived.Test.YtdojfnigffeblaaDoorMkA
import Derived.Test.YtdojfnigffeblaaDoorFwD
import Derived.Test.YtdojfnigffeblaaDoorGuA
import Derived.Test.YtdojfnigffeblaaDoorFwB
set_option linter.all false
namespace Go.Proofs.YtdojfnigffeblaaDoor
open Go.Fw
theorem fn13 : FnOk Tryd.prog 13 := ⟨_, Tryd.func13, rfl, by kernel_rfl⟩
theorem fn18 : FnOk Tryd.prog 18 := ⟨_, Tryd.func18, rfl, by kernel_rfl⟩
theorem fn34 : FnOk Tryd.prog 34 := ⟨_, Tryd.func34, rfl, by kernel_rfl⟩
theorem fn60 : FnOk Tryd.prog 60 := ⟨_, Tryd.func60, rfl, by kernel_rfl⟩

attribute [local irreducible] Sha.sum Sha.mac Sha.ofD Wi.int Wi.ints Wi.bytes Sha.inp Mk.half Lib.compareBytes Mk.frm Mk.rootD

/-- A proof whose leaves are copied. -/
def PmR (q : Mk.Pf) (sv : Value) : Value → List PH → List Res → Prop := fun r zs hs => ∃ lv z, r = .agg [vi q.fst, vi q.sz, lv, sv].toArray ∧ Sl encF z lv q.lv ∧ zs = [z] ∧ hs = []

set_option maxRecDepth 4000 in
set_option maxHeartbeats 2000000 in
theorem model_ct (q : Mk.Pf) (lv sv : Value) (hl9 : q.lv.length < 1048576) (w : World) (hb : Sl encF (ph w) lv q.lv) (hsd : Sl (encA 16) (ph w) sv q.sd)  : Ct Tryd.prog 27 [.agg [vi q.fst, vi q.sz, lv, sv].toArray] w (PmR q sv) := by
 refine fn_enter Tryd.func27 rfl Tryd.ntmps27 (Nat.le_of_ble_eq_true rfl) fun a hF hS => ?_
 have hbl := hb.1
 refine wp_seq_k ?_; intro K1 hK1
 refine regl ?_
 refine wpl_ef hF hS rfl (ef_boxA rfl) ?_
 clear hF hS; rintro _ _ _ a w ⟨b1, rfl, rfl, rfl⟩ hF hS
 refine wpl_ef hF hS rfl (ef_allocA ty54) ?_
 clear hF hS; rintro _ _ _ a w ⟨b2, rfl, rfl, rfl⟩ hF hS
 refine wpList_nil ?_
 refine hK1 _ _ ?_
 clear hK1
 refine wp_seq_k ?_; intro K2 hK2
 revert hS; revert hF; apply regJ (J := J2 (α0 := Value) (α1 := PH) 13 _ _ _ _ _) #[false, false, false, false, false, false, false, false, false, false, false] 11 mixed rfl rfl
 ·intro w hF hS
  refine goW_take 0 _ rfl kQ rfl hF (hS.keep sQ zQ) (q_fieldAddr ty50 rfl rfl (s' := 0) kQ) ?_
  clear hF; intro a hF
  refine goW_take 1 _ rfl kQ rfl hF (hS.keep sQ (sQ.n)) (q_ld_blk1 ty3 0 rfl rfl rfl rfl) ?_
  clear hF; intro a hF
  refine goW_take 2 _ rfl kQ rfl hF (hS.keep sQ zQ) (q_fieldAddr ty50 rfl rfl (s' := 0) kQ) ?_
  clear hF; intro a hF
  refine goW_take 3 _ rfl kQ rfl hF (hS.keep sQ (sQ.n)) (q_ld_blk1 ty3 0 rfl rfl rfl rfl) ?_
  clear hF; intro a hF
  refine goW_take 4 _ rfl kQ rfl hF (hS.keep sQ zQ) (q_fieldAddr ty50 rfl rfl (s' := 0) kQ) ?_
  clear hF; intro a hF
  refine goW_take 5 _ rfl kQ rfl hF (hS.keep sQ (sQ.n)) (q_ld_blk1 ty33 0 rfl rfl rfl rfl) ?_
  clear hF; intro a hF
  refine goW_take 7 _ rfl kQ rfl hF (hS.keep sQ zQ) (q_fieldAddr ty50 rfl rfl (s' := 0) kQ) ?_
  clear hF; intro a hF
  refine goW_take 8 _ rfl kQ rfl hF (hS.keep sQ (sQ.n)) (q_ld_blk1 ty48 0 rfl rfl rfl rfl) ?_
  clear hF; intro a hF
  refine gQ 6 rfl rfl hF hS rfl (ef_call fn18 rfl (fun w hS => plain_ct _ _ hl9 w (Sl.mono (hS.le zin0) hb))) ?_
  clear hF hS; rintro v_1_6 _ _ a w ⟨_, _, rfl, rfl, ⟨z_1_6, hz_1_6, rfl, rfl⟩⟩ hF hS
  refine ⟨⟨.inr (hS.k1 (sQ.n)), .inr hS.k0, iQ, iQ, .inr (hS.k1 (sQ.n)), .inr hS.k0, .inr (hS.k1 (sQ.n)), .inr hS.k0, trivial⟩, ?_⟩
  refine goW_take 9 _ rfl kQ rfl hF (hS.keep sQ zQ) (q_buildS1 ty54 4 kQ rfl rfl (oc_cons rfl (oc_cons rfl (oc_cons (sl_one' hz_1_6) (oc_cons (sl_one' hsd) oc_nil)))) rfl rfl) ?_
  clear hF; intro a hF
  refine gQ 10 rfl rfl hF hS rfl (ef_storeW ty54 0 rfl rfl rfl rfl bQ (oc_cons rfl (oc_cons rfl (oc_cons (sl_one' hz_1_6) (oc_cons (sl_one' hsd) oc_nil)))) bQ) ?_
  clear hF hS; rintro _ _ _ a w ⟨rfl, rfl, rfl⟩ hF hS
  refine ⟨⟨iQ, iQ, iQ, iQ, iQ, iQ, iQ, iQ, iQ, trivial⟩, ?_⟩
  exact goW_done kQ (j2_mk v_1_6 z_1_6 ((And.intro hz_1_6 trivial)) (hF.sub (L' := [(2, _)]) ⟨rfl, trivial⟩) hS)
 rintro a w ⟨v_1_6, z_1_6, ⟨hz_1_6, -⟩, hF, hS⟩
 (try dsimp only at hF); (try dsimp only at hS)
 refine hK2 _ _ ?_
 clear hK2
 refine wp_ret ?_
 exact fn_ret (rs := [.cell 2 54]) rfl hF hS (vs := [_]) ⟨⟨_, _, _, _, _, _, _, rfl, List.mem_of_getElem? (i := 0) rfl, ty54, .inl ⟨rfl, bQ, rfl⟩⟩, trivial⟩ (zs' := [_]) (hs' := []) (List.singleton_sublist.2 (by simp)) zQ ⟨_, _, rfl, hz_1_6, rfl, rfl⟩

set_option maxRecDepth 4000 in
set_option maxHeartbeats 2000000 in
theorem samep_ct (p q : Mk.Pf) (lp sp lq sw : Value) (w : World) (hb1 : Sl encF (ph w) lp p.lv) (hd1 : Sl (encA 16) (ph w) sp p.sd) (hb2 : Sl encF (ph w) lq q.lv) (hd2 : Sl (encA 16) (ph w) sw q.sd) : Ct Tryd.prog 26 [.agg [vi p.fst, vi p.sz, lp, sp].toArray, .agg [vi q.fst, vi q.sz, lq, sw].toArray] w (fun r _ _ => r = .bool (Mk.samePf p q)) := by
 refine fn_enter Tryd.func26 rfl Tryd.ntmps26 (Nat.le_of_ble_eq_true rfl) fun a hF hS => ?_
 refine wp_seq_k ?_; intro K1 hK1
 refine regl ?_
 refine wpl_ef hF hS rfl (ef_boxA rfl) ?_
 clear hF hS; rintro _ _ _ a w ⟨b1, rfl, rfl, rfl⟩ hF hS
 refine wpl_ef hF hS rfl (ef_boxA rfl) ?_
 clear hF hS; rintro _ _ _ a w ⟨b2, rfl, rfl, rfl⟩ hF hS
 refine wpl_sq hF hS (sq rfl (q_assign rfl) <|
   sq_end) ?_
 clear hF hS; intro a w hF hS
 refine wpList_nil ?_
 refine hK1 _ _ ?_
 clear hK1
 refine wp_seq_k ?_; intro K2 hK2
 refine regl ?_
 refine wpl_sq hF hS (sq rfl (q_fieldAddr ty54 rfl rfl (s' := 0) kQ) <|
   sq rfl (q_ld_blk1 ty3 1 rfl rfl rfl rfl) <|
   sq rfl (q_fieldAddr ty54 rfl rfl (s' := 0) kQ) <|
   sq rfl (q_ld_blk1 ty3 0 rfl rfl rfl rfl) <|
   sq rfl (q_eqi rfl rfl) <|
   sq rfl (q_move rfl) <|
   sq_end) ?_
 clear hF hS; intro a w hF hS
 refine wpl_and 5 10 5 hF hS rfl rfl rfl rfl rfl (fun hg => have hg := (by first | exact of_decide_eq_true hg | exact hg); sq_go 10 rfl rfl rfl (q_fieldAddr ty54 rfl rfl (s' := 0) kQ) <|
   sq_go 10 rfl rfl rfl (q_ld_blk1 ty3 1 rfl rfl rfl rfl) <|
   sq_go 10 rfl rfl rfl (q_fieldAddr ty54 rfl rfl (s' := 0) kQ) <|
   sq_go 10 rfl rfl rfl (q_ld_blk1 ty3 0 rfl rfl rfl rfl) <|
   sq_go 10 rfl rfl rfl (q_eqi rfl rfl) <|
   sq_end) rfl rfl ?_
 clear hF hS; intro a w hF hS
 refine wpl_sq hF hS (sq rfl (q_move rfl) <|
   sq_end) ?_
 clear hF hS; intro a w hF hS
 refine wpl_and 12 17 5 hF hS rfl rfl rfl rfl rfl (fun hg => have hg := hg; sq_go 17 rfl rfl rfl (q_fieldAddr ty54 rfl rfl (s' := 0) kQ) <|
   sq_go 17 rfl rfl rfl (q_ld_blk1 ty24 1 rfl rfl rfl rfl) <|
   sq_go 17 rfl rfl rfl (q_fieldAddr ty54 rfl rfl (s' := 0) kQ) <|
   sq_go 17 rfl rfl rfl (q_ld_blk1 ty24 0 rfl rfl rfl rfl) <|
   sq_go 17 rfl rfl rfl (q_call fn34 rfl (fun w hS => samel_ct _ _ _ _ w (Sl.mono (hS.le zin0) hb1) (Sl.mono (hS.le zin0) hb2)) (fun _ _ _ h => h)) <|
   sq_end) rfl rfl ?_
 clear hF hS; intro a w hF hS
 refine wpl_sq hF hS (sq rfl (q_move rfl) <|
   sq_end) ?_
 clear hF hS; intro a w hF hS
 refine wpl_and 19 24 5 hF hS rfl rfl rfl rfl rfl (fun hg => have hg := hg; sq_go 24 rfl rfl rfl (q_fieldAddr ty54 rfl rfl (s' := 0) kQ) <|
   sq_go 24 rfl rfl rfl (q_ld_blk1 ty48 1 rfl rfl rfl rfl) <|
   sq_go 24 rfl rfl rfl (q_fieldAddr ty54 rfl rfl (s' := 0) kQ) <|
   sq_go 24 rfl rfl rfl (q_ld_blk1 ty48 0 rfl rfl rfl rfl) <|
   sq_go 24 rfl rfl rfl (q_call fn60 rfl (fun w hS => samed_ct _ _ _ _ w (Sl.mono (hS.le zin0) hd1) (Sl.mono (hS.le zin0) hd2)) (fun _ _ _ h => h)) <|
   sq_end) rfl rfl ?_
 clear hF hS; intro a w hF hS
 refine wpl_sq hF hS (sq rfl (q_assign rfl) <|
   sq_end) ?_
 clear hF hS; intro a w hF hS
 refine wpList_nil ?_
 refine hK2 _ _ ?_
 clear hK2
 refine wp_ret ?_
 exact fn_ret (rs := [.tmp 4]) rfl hF hS (vs := [_]) ⟨rfl, trivial⟩ zQ zQ (rfl)

end Go.Proofs.YtdojfnigffeblaaDoor
