/- A text of a proof over this seat: walks over the program's functions and the plain laws that they need. -/
import Derived.Test.YtcbjemjohacbpaaGg13
import Derived.Test.YtcbjemjohacbpaaGuA
import Derived.Test.YtcbjemjohacbpaaFwB
set_option linter.all false
namespace Go.Proofs.Ytcbjemjohacbpaa
open Go.Fw


/-- The lattice of the examples. -/
def LatE (b : Bool) (r : Value) (zs : List PH) (hs : List Res) : Prop :=
 ∃ (nv sv bv : Value) (ns : List (List Value)) (z : PH), r = .agg [nv, sv, bv].toArray ∧ Sl (encC 2) z nv ns ∧ Sl encI z sv Gu.exX ∧ Sl encT z bv (Gu.exB b) ∧ zs = [z] ∧ hs = []
/-- Four lattices of few names, sets and marks. -/
def LatsR (r : Value) (zs : List PH) (hs : List Res) : Prop :=
 ∃ (ls : List (List (List Value) × List Int × List Bool)) (z : PH), Sl encL z r ls ∧ ls.length = 4 ∧ (∀ x ∈ ls, x.1.length ≤ 40 ∧ x.2.1.length ≤ 40 ∧ x.2.2.length ≤ 40) ∧ zs = [z] ∧ hs = []

set_option maxRecDepth 4000 in
set_option maxHeartbeats 2000000 in
theorem example_ct (b : Bool) (w : World) : Ct Try.prog 54 [.bool b] w (LatE b) := by
 refine fn_enter Try.func54 rfl Try.ntmps54 (Nat.le_of_ble_eq_true rfl) fun a hF hS => ?_
 refine wp_seq_k ?_; intro K1 hK1
 refine regl ?_
 refine wpl_ef hF hS rfl (ef_allocA ty29) ?_
 clear hF hS; rintro _ _ _ a w ⟨b1, rfl, rfl, rfl⟩ hF hS
 refine wpList_nil ?_
 refine hK1 _ _ ?_
 clear hK1
 refine wp_seq_k ?_; intro K2 hK2
 refine regl ?_
 refine wpl_sq hF hS (sq rfl (q_buildP (places := [(0, 1), (1, 1)]) (cells := [.int .i64 0, .int .i64 0]) ty94 kQ rfl (by rfl)) <|
   sq rfl (q_buildP (places := [(0, 1), (1, 1)]) (cells := [.int .i64 0, _]) ty94 kQ rfl (by rfl)) <|
   sq rfl (q_buildP (places := [(0, 1), (1, 1)]) (cells := [_, .int .i64 0]) ty94 kQ rfl (by rfl)) <|
   sq_end) ?_
 clear hF hS; intro a w hF hS
 refine wpl_ef hF hS rfl (ef_bsliceC ty27 ty94 [[_, _], [_, _], [_, _]] rfl rfl (by simp) (oc2_cons (oc_cons rfl (oc_cons rfl oc_nil)) (oc2_cons (oc_cons rfl (oc_cons rfl oc_nil)) (oc2_cons (oc_cons rfl (oc_cons rfl oc_nil)) oc2_nil))) (by decide) rfl rfl) ?_
 clear hF hS; rintro v2 _ _ a w ⟨rfl, rfl⟩ hF hS
 replace hS : St _ [] [_, _] _ := hS
 refine wpl_ef hF hS rfl (ef_bsliceA ty22 ty3 rfl rfl oQ (by decide) rfl rfl) ?_
 clear hF hS; rintro v4 _ _ a w ⟨rfl, rfl⟩ hF hS
 replace hS : St _ [] [_, _, _] _ := hS
 refine wpl_sq hF hS (sq rfl (q_move rfl) <|
   sq_end) ?_
 clear hF hS; intro a w hF hS
 refine wpl_ef hF hS rfl (ef_bsliceA ty23 ty4 rfl rfl oQ (by decide) rfl rfl) ?_
 clear hF hS; rintro v6 _ _ a w ⟨rfl, rfl⟩ hF hS
 replace hS : St _ [] [_, _, _, _] _ := hS
 refine wpl_sq hF hS (sq rfl (q_buildS1 ty29 3 kQ rfl rfl (oc_cons (row_one (hS.own _ (List.mem_of_getElem? (i := 2) rfl)).1) (oc_cons (row_one (hS.own _ (List.mem_of_getElem? (i := 1) rfl)).1) (oc_cons (row_one (hS.own _ (List.mem_of_getElem? (i := 0) rfl)).1) oc_nil))) rfl rfl) <|
   sq_end) ?_
 clear hF hS; intro a w hF hS
 refine wpl_ef hF hS rfl (ef_storeW ty29 3 rfl rfl rfl rfl bQ (oc_cons (row_one (hS.own _ (List.mem_of_getElem? (i := 2) rfl)).1) (oc_cons (row_one (hS.own _ (List.mem_of_getElem? (i := 1) rfl)).1) (oc_cons (row_one (hS.own _ (List.mem_of_getElem? (i := 0) rfl)).1) oc_nil))) bQ) ?_
 clear hF hS; rintro _ _ _ a w ⟨rfl, rfl, rfl⟩ hF hS
 replace hS : St _ [] [_, _, _, _] _ := hS
 refine wpList_nil ?_
 refine hK2 _ _ ?_
 clear hK2
 refine wp_ret ?_
 replace hS := hS.perm (.cons _ (.swap _ _ _))
 replace hS := hS.perm (.swap _ _ _)
 obtain ⟨zn, hzn, hS⟩ := hS.freezeC (l := [[.int .i64 0, .int .i64 0], [.int .i64 0, .int .i64 1], [.int .i64 1, .int .i64 0]]) rfl (by decide) (by simp [Value.oneCell'])
 replace hS := hS.perm (.swap _ _ _)
 obtain ⟨zi, hzi, hS⟩ := St.freezeV (f := vi) (p := fun x => -9223372036854775808 ≤ x ∧ x ≤ 9223372036854775807) (xs := [0, 1, 4, 3, 5, 7]) hS rfl (by decide) (by simp)
 obtain ⟨zb, hzb, hS⟩ := St.freezeV (f := vt) (p := fun _ => True) (xs := [true, true, b, true, true, true]) hS rfl (by decide) (fun _ _ => trivial)
 obtain ⟨zu, hzu, hS⟩ := hS.union
 exact fn_ret (rs := [.cell 2 29]) rfl hF hS (vs := [_]) ⟨⟨_, _, _, _, _, _, _, rfl, List.mem_of_getElem? (i := 0) rfl, ty29, .inl ⟨rfl, bQ, rfl⟩⟩, trivial⟩ (zs' := [zu]) (hs' := []) (List.singleton_sublist.2 (by simp)) zQ ⟨_, _, _, _, zu, rfl, hzn.mono (hzu _ (by simp)), hzi.mono (hzu _ (by simp)), hzb.mono (hzu _ (by simp)), rfl, rfl⟩

set_option maxRecDepth 4000 in
set_option maxHeartbeats 2000000 in
theorem marked_ct (xN xS xB : Value) (xs : List Int) (xb : List Bool) (v : Value) (l : List Int) (hl : xs.length < 1048576) (w : World) (hxn : xN.oneCell' = true) (hxs : Sl encI (ph w) xS xs) (hxb : Sl encT (ph w) xB xb) (hb : Sl encI (ph w) v l) : Ct Try.prog 55 [.agg [xN, xS, xB].toArray, v] w (SlR encT (Gu.mkB xs l l.length)) := by
 refine fn_enter Try.func55 rfl Try.ntmps55 (Nat.le_of_ble_eq_true rfl) fun a hF hS => ?_
 have hbl := hb.1
 have hsl := hxs.1
 have htl := hxb.1
 refine wp_seq_k ?_; intro K1 hK1
 refine regl ?_
 refine wpl_ef hF hS rfl (ef_boxA rfl) ?_
 clear hF hS; rintro _ _ _ a w ⟨b1, rfl, rfl, rfl⟩ hF hS
 refine wpl_sq hF hS (sq rfl (q_assign rfl) <|
   sq_end) ?_
 clear hF hS; intro a w hF hS
 refine wpList_nil ?_
 refine hK1 _ _ ?_
 clear hK1
 refine wp_seq_k ?_; intro K2 hK2
 refine regl ?_
 refine wpl_sq hF hS (sq rfl (q_fieldAddr ty29 rfl rfl (s' := 0) kQ) <|
   sq rfl (q_ld_blk1 ty22 0 rfl rfl rfl rfl) <|
   sq rfl (q_len_sl ty22 hxs rfl) <|
   sq_end) ?_
 clear hF hS; intro a w hF hS
 refine wpl_ef hF hS rfl (ef_mks ty23 ty4 rfl rfl bQ bQ rfl) ?_
 clear hF hS; rintro v2 _ _ a w ⟨rfl, rfl⟩ hF hS
 replace hS : St _ [] [_, _] _ := hS
 refine wpl_sq hF hS (sq rfl (q_assign rfl) <|
   sq_end) ?_
 clear hF hS; intro a w hF hS
 refine wpList_nil ?_
 rw [show List.replicate xs.length (Value.bool false) = (List.replicate xs.length false).map vt from by rw [List.map_replicate]] at hS
 refine hK2 _ _ ?_
 clear hK2
 refine wp_seq_k ?_; intro K3 hK3
 refine wp_seq_k ?_; intro K4 hK4
 refine reg hF hS (sq rfl (q_assign rfl) <|
   sq_end) ?_
 clear hF hS; intro a w hF hS
 refine hK4 _ _ ?_
 clear hK4
 refine wp_block ?_
 obtain ⟨hs0, hhs0, hS⟩ : ∃ h, h = _ ∧ St _ _ h _ := ⟨_, rfl, hS⟩
 refine wp_loopx (γ := Int) (0) (fun (i : Int) => [(6, vi i)]) [(1, _), (2, _), (5, _)] (fun (i : Int) => (hs0.set 0 (.row v2 4 1 xs.length ((Gu.mkB xs l i.toNat).map vt)))) (fun (i : Int) => 0 ≤ i ∧ i ≤ l.length) (fun (i : Int) => (l.length - i).toNat) (hF.sub ⟨rfl, rfl, rfl, rfl, trivial⟩) (by subst hhs0; exact hS) (by exact ⟨Int.le_refl _, by omega⟩) ?_
 clear hF hS; rintro i a w hfact hF hS
 subst hhs0; (try dsimp only at hfact); (try dsimp only at hF); (try dsimp only at hS)
 obtain ⟨hi0, hi1⟩ := hfact
 replace hS : St _ [] [_, _] _ := hS
 have hix := Gu.ixF_range (fun y => decide (l.getD i.toNat 0 = y)) xs
 refine wp_seq_k ?_; intro K5 hK5
 refine wp_seq_k ?_; intro K6 hK6
 refine reg hF hS (sq rfl (q_move rfl) <|
   sq rfl (q_move rfl) <|
   sq rfl (q_len_sl ty22 hb rfl) <|
   sq rfl (q_lti rfl rfl) <|
   sq_end) ?_
 clear hF hS; intro a w hF hS
 refine hK6 _ _ ?_
 clear hK6
 refine wp_ifd hF rfl (fun hc1 => ?_) (fun hc1 => ?_)
 ·refine wp_skip ?_
  refine hK5 _ _ ?_
  clear hK5
  refine wp_seq_k ?_; intro K7 hK7
  refine wp_block ?_
  refine wp_seq_k ?_; intro K8 hK8
  refine regd mixed kQ hF hS (sq rfl (q_ld_blkW ty29 1 rfl rfl bQ rfl) <|
    sq rfl (q_move rfl) <|
    sq rfl (q_move rfl) <|
    sq rfl (q_idx_sl ty22 ty3 hb rfl rfl (by omega)) <|
    sq rfl (q_ld_I ty3 hb zin0 rfl rfl (by omega)) <|
    sq rfl (q_call fn32 rfl (fun w hS => rix_ct _ _ _ _ _ _ w hxn (Sl.mono (hS.le zin0) hxs) (Sl.mono (hS.le zin0) hxb)) (fun _ _ _ h => h)) <|
    sq rfl (q_assign rfl) <|
    sq_end) ?_
  clear hF hS; intro a w hF hS
  refine hK8 _ _ ?_
  clear hK8
  refine wp_seq_k ?_; intro K9 hK9
  refine reg hF hS (sq rfl (q_move rfl) <|
    sq rfl (q_gei rfl rfl) <|
    sq_end) ?_
  clear hF hS; intro a w hF hS
  refine hK9 _ _ ?_
  clear hK9
  refine wp_ifd hF rfl (fun hc2 => ?_) (fun hc2 => ?_)
  ·refine regl ?_
   refine wpl_sq hF hS (sq rfl (q_move rfl) <|
     sq rfl (q_move rfl) <|
     sq rfl (q_idx_row ty23 ty4 0 rfl rfl rfl (by omega)) <|
     sq_end) ?_
   clear hF hS; intro a w hF hS
   refine wpl_ef hF hS rfl (ef_st_row ty4 0 rfl rfl rfl (by omega) rfl) ?_
   clear hF hS; rintro _ _ _ a w ⟨rfl, rfl, rfl⟩ hF hS
   replace hS : St _ [] [_, _] _ := hS
   refine wpList_nil ?_
   refine hK7 _ _ ?_
   clear hK7
   refine reg hF hS (sq rfl (q_move rfl) <|
     sq rfl (q_addi rfl rfl (by omega)) <|
     sq rfl (q_assign rfl) <|
     sq_end) ?_
   clear hF hS; intro a w hF hS
   refine ⟨(i + 1), ?_, ?_, hF.sub ⟨rfl, rfl, rfl, rfl, trivial⟩, ?_⟩
   ·(try dsimp only); omega
   ·(try dsimp only); omega
   ·rw [show (i + 1).toNat = i.toNat + 1 by omega, Gu.mkB_step (by omega), List.map_set]; exact hS
  ·refine wp_skip ?_
   refine hK7 _ _ ?_
   clear hK7
   refine reg hF hS (sq rfl (q_move rfl) <|
     sq rfl (q_addi rfl rfl (by omega)) <|
     sq rfl (q_assign rfl) <|
     sq_end) ?_
   clear hF hS; intro a w hF hS
   refine ⟨(i + 1), ?_, ?_, hF.sub ⟨rfl, rfl, rfl, rfl, trivial⟩, ?_⟩
   ·(try dsimp only); omega
   ·(try dsimp only); omega
   ·rw [show (i + 1).toNat = i.toNat + 1 by omega, Gu.mkB_stay (by omega)]; exact hS
 ·obtain rfl : i = l.length := by omega
  rw [Int.toNat_natCast, ← Gu.mkB_len xs l l.length] at hS
  have hml := Gu.mkB_len xs l l.length
  refine wp_exit ?_
  refine hK3 _ _ ?_
  clear hK3
  refine wp_seq_k ?_; intro K10 hK10
  refine reg hF hS (sq rfl (q_move rfl) <|
    sq rfl (q_assign rfl) <|
    sq_end) ?_
  clear hF hS; intro a w hF hS
  refine hK10 _ _ ?_
  clear hK10
  refine wp_ret ?_
  obtain ⟨zr, hzr, hS⟩ := St.freezeV (f := vt) (p := fun _ => True) hS rfl (by first | omega | (simp; omega)) (fun _ _ => trivial)
  exact fn_ret (rs := [.tmp 4]) rfl hF hS (vs := [_]) ⟨rfl, trivial⟩ (zs' := [_]) (hs' := []) (List.singleton_sublist.2 (by simp)) zQ (sr_of ⟨_, hzr, rfl, rfl⟩ (rfl))
end Go.Proofs.Ytcbjemjohacbpaa
