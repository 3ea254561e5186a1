/- A text of a proof over this seat: walks over the program's functions and the plain laws that they need. -/
import Derived.Test.YtcbjemjohacbpaaGg21
import Derived.Test.YtcbjemjohacbpaaGuA
import Derived.Test.YtcbjemjohacbpaaFwC
import Derived.Test.YtcbjemjohacbpaaFwB
set_option linter.all false
namespace Go.Proofs.Ytcbjemjohacbpaa
open Go.Fw


/-- The part of a lattice within one set, and its marks. -/
def PartR (N : Value) (xs : List Int) (xb M : List Bool) (s : Int) (r : Value) (zs : List PH) (hs : List Res) : Prop :=
 ∃ (sv bv mv : Value) (z : PH), r = .tuple [.agg [N, sv, bv].toArray, mv].toArray ∧ Sl encI z sv (Gu.ptX xs s xs.length) ∧ Sl encT z bv (Gu.ptB xs s xb xs.length) ∧ Sl encT z mv (Gu.ptB xs s M xs.length) ∧ zs = [z] ∧ hs = []

set_option maxRecDepth 4000 in
set_option maxHeartbeats 2000000 in
theorem part_ct (xN xS xB : Value) (xs : List Int) (xb : List Bool) (v : Value) (M : List Bool) (s : Int) (hl : xs.length < 1048576) (hq1 : xb.length = xs.length) (hq2 : M.length = xs.length) (w : World) (hxn : xN.oneCell' = true) (hxs : Sl encI (ph w) xS xs) (hxb : Sl encT (ph w) xB xb) (hb : Sl encT (ph w) v M) : Ct Try.prog 34 [.agg [xN, xS, xB].toArray, v, vi s] w (PartR xN xs xb M s) := by
 refine fn_enter Try.func34 rfl Try.ntmps34 (Nat.le_of_ble_eq_true rfl) fun a hF hS => ?_
 have hbl := hb.1
 have hsl := hxs.1
 have htl := hxb.1
 refine wp_seq_k ?_; intro K1 hK1
 refine regl ?_
 refine wpl_ef hF hS rfl (ef_boxA rfl) ?_
 clear hF hS; rintro _ _ _ a w ⟨b1, rfl, rfl, rfl⟩ hF hS
 refine wpl_ef hF hS rfl (ef_allocA ty29) ?_
 clear hF hS; rintro _ _ _ a w ⟨b2, rfl, rfl, rfl⟩ hF hS
 refine wpl_sq hF hS (sq rfl (q_assign rfl) <|
   sq_end) ?_
 clear hF hS; intro a w hF hS
 refine wpList_nil ?_
 refine hK1 _ _ ?_
 clear hK1
 refine wp_seq_k ?_; intro K2 hK2
 refine regl ?_
 refine wpl_sq hF hS (sq rfl (q_fieldAddr ty29 rfl rfl (s' := 0) kQ) <|
   sq rfl (q_ld_blk1 ty27 1 rfl rfl rfl rfl) <|
   sq rfl (q_build1 ty29 3 kQ rfl hxn rfl (by decide)) <|
   sq_end) ?_
 clear hF hS; intro a w hF hS
 refine wpl_ef hF hS rfl (ef_allocA ty29) ?_
 clear hF hS; rintro _ _ _ a w ⟨b3, rfl, rfl, rfl⟩ hF hS
 refine wpl_ef hF hS rfl (ef_storeW ty29 0 rfl rfl rfl rfl bQ (oc_cons hxn (oc_cons rfl (oc_cons rfl oc_nil))) bQ) ?_
 clear hF hS; rintro _ _ _ a w ⟨rfl, rfl, rfl⟩ hF hS
 replace hS : St _ [] [_, _, _] _ := hS
 refine wpList_nil ?_
 replace hS := hS.nilRow 3 1
 replace hS : St _ [] [_, _, _, _] _ := hS
 replace hS := hS.nilRow 4 1
 replace hS : St _ [] [_, _, _, _, _] _ := hS
 refine hK2 _ _ ?_
 clear hK2
 refine wp_seq_k ?_; intro K3 hK3
 refine reg hF hS (sq rfl (q_assign rfl) <|
   sq_end) ?_
 clear hF hS; intro a w hF hS
 replace hS := hS.nilRow 4 1
 refine hK3 _ _ ?_
 clear hK3
 refine wp_seq_k ?_; intro K4 hK4
 refine wp_seq_k ?_; intro K5 hK5
 refine reg hF hS (sq rfl (q_assign rfl) <|
   sq_end) ?_
 clear hF hS; intro a w hF hS
 refine hK5 _ _ ?_
 clear hK5
 refine wp_block ?_
 obtain ⟨hs0, hhs0, hS⟩ : ∃ h, h = _ ∧ St _ _ h _ := ⟨_, rfl, hS⟩
 refine wp_loopx (γ := Value × Value × Value × Int) ((Value.slice none 0 0), (Value.slice none 0 0), (Value.slice none 0 0), 0) (fun (gg : Value × Value × Value × Int) => match gg with | (u1, u2, u3, i) => [(9, u3), (10, vi i)]) [(1, _), (2, _), (3, _), (6, _), (8, _)] (fun (gg : Value × Value × Value × Int) => match gg with | (u1, u2, u3, i) => ((((hs0.set 3 (.blk b3 29 [xN, u1, u2])).set 2 (.row u1 3 1 (Gu.ptX xs s i.toNat).length ((Gu.ptX xs s i.toNat).map vi))).set 1 (.row u2 4 1 (Gu.ptX xs s i.toNat).length ((Gu.ptB xs s xb i.toNat).map vt))).set 0 (.row u3 4 1 (Gu.ptX xs s i.toNat).length ((Gu.ptB xs s M i.toNat).map vt)))) (fun (gg : Value × Value × Value × Int) => match gg with | (u1, u2, u3, i) => 0 ≤ i ∧ i ≤ xs.length) (fun (gg : Value × Value × Value × Int) => match gg with | (u1, u2, u3, i) => (xs.length - i).toNat) (hF.sub ⟨rfl, rfl, rfl, rfl, rfl, rfl, rfl, trivial⟩) (by subst hhs0; exact hS) (by exact ⟨Int.le_refl _, by omega⟩) ?_
 clear hF hS; rintro ⟨u1, u2, u3, i⟩ a w hfact hF hS
 subst hhs0; (try dsimp only at hfact); (try dsimp only at hF); (try dsimp only at hS)
 obtain ⟨hi0, hi1⟩ := hfact
 replace hS : St _ [] [_, _, _, _, _, _] _ := hS
 have hel := Gu.ptX_len xs s i.toNat
 refine wp_seq_k ?_; intro K6 hK6
 refine wp_seq_k ?_; intro K7 hK7
 refine reg hF hS (sq rfl (q_move rfl) <|
   sq rfl (q_fieldAddr ty29 rfl rfl (s' := 0) kQ) <|
   sq rfl (q_ld_blk1 ty22 5 rfl rfl rfl rfl) <|
   sq rfl (q_len_sl ty22 hxs rfl) <|
   sq rfl (q_lti rfl rfl) <|
   sq_end) ?_
 clear hF hS; intro a w hF hS
 refine hK7 _ _ ?_
 clear hK7
 refine wp_ifd hF rfl (fun hc1 => ?_) (fun hc1 => ?_)
 ·refine wp_skip ?_
  refine hK6 _ _ ?_
  clear hK6
  refine wp_seq_k ?_; intro K8 hK8
  refine wp_block ?_
  refine wp_seq_k ?_; intro K9 hK9
  refine reg hF hS (sq rfl (q_fieldAddr ty29 rfl rfl (s' := 0) kQ) <|
    sq rfl (q_ld_blk1 ty22 5 rfl rfl rfl rfl) <|
    sq rfl (q_move rfl) <|
    sq rfl (q_idx_sl ty22 ty3 hxs rfl rfl (by omega)) <|
    sq rfl (q_ld_I ty3 hxs zin0 rfl rfl (by omega)) <|
    sq rfl (q_move rfl) <|
    sq rfl (q_call fn30 rfl (fun w hS => in_ct _ _ w ) (fun _ _ _ h => h)) <|
    sq_end) ?_
  clear hF hS; intro a w hF hS
  refine hK9 _ _ ?_
  clear hK9
  refine wp_if hF rfl (fun hc2 => ?_) (fun hc2 => ?_)
  ·refine wp_seq_k ?_; intro K10 hK10
   revert hF hS; apply regJ (J := J2 (α0 := Value) (α1 := Value) 57 _ _ _ _ _) #[false, false, false, false, false, false, false, false, false, false, false] 11 mixed rfl rfl
   ·intro w hF hS
    refine goW_take 0 _ rfl kQ rfl hF (hS.keep sQ zQ) (q_fieldAddr ty29 rfl rfl (s' := 0) kQ) ?_
    clear hF; intro a hF
    refine goW_take 1 _ rfl kQ rfl hF (hS.keep sQ (zQ.k.n.n.n)) (q_ld_blk1 ty22 0 rfl rfl rfl rfl) ?_
    clear hF; intro a hF
    refine goW_take 2 _ rfl kQ rfl hF (hS.keep sQ zQ) (q_fieldAddr ty29 rfl rfl (s' := 0) kQ) ?_
    clear hF; intro a hF
    refine goW_take 3 _ rfl kQ rfl hF (hS.keep sQ (sQ.n.n.n.n.n)) (q_ld_blk1 ty22 0 rfl rfl rfl rfl) ?_
    clear hF; intro a hF
    refine goW_take 4 _ rfl kQ rfl hF (hS.keep sQ zQ) (q_move rfl) ?_
    clear hF; intro a hF
    refine goW_take 5 _ rfl kQ rfl hF (hS.keep sQ zQ) (q_idx_sl ty22 ty3 hxs rfl rfl (by omega)) ?_
    clear hF; intro a hF
    refine goW_take 6 _ rfl kQ rfl hF (hS.keep sQ zQ) (q_ld_I ty3 hxs zin0 rfl rfl (by omega)) ?_
    clear hF; intro a hF
    refine gQ 7 rfl rfl hF hS rfl (ef_bsliceA ty22 ty3 rfl rfl oQ (by decide) rfl rfl) ?_
    clear hF hS; rintro v_7_7 _ _ a w ⟨rfl, rfl⟩ hF hS
    refine ⟨⟨iQ, iQ, .inr hS.k0, .inr (hS.k1 (sQ.n.n.n.n.n.n)), .inr hS.k0, .inr (hS.k1 (zQ.k.n.n.n.n)), .inr hS.k0, trivial⟩, ?_⟩
    refine gQ 8 rfl rfl hF hS rfl (ef_append ty22 ty3 3 rfl rfl rfl (src_row ty22 (k := 0) rfl oQ) bQ rfl (by decide)) ?_
    clear hF hS; rintro v_7_8 _ _ a w ⟨rfl, rfl⟩ hF hS
    refine ⟨⟨iQ, iQ, .inr hS.k0, .inr (hS.k1 (sQ.n.n.n.n.n.n)), .inr hS.k0, iQ, iQ, trivial⟩, ?_⟩
    refine goW_take 9 _ rfl kQ rfl hF (hS.keep sQ zQ) (q_fieldAddr ty29 rfl rfl (s' := 0) kQ) ?_
    clear hF; intro a hF
    refine gQ 10 rfl rfl hF hS rfl (ef_store1 ty22 4 rfl rfl rfl (row_one (hS.own _ (List.mem_of_getElem? (i := 3) rfl)).1) (by simp)) ?_
    clear hF hS; rintro _ _ _ a w ⟨rfl, rfl, rfl⟩ hF hS
    replace hS : St _ [] [_, _, _, _, .blk _ _ ([_, _, _].set 1 _), _, _] _ := hS
    simp only [List.set_cons_zero, List.set_cons_succ] at hS
    replace hS : St _ [] [_, _, _, _, _, _, _] _ := hS
    refine ⟨⟨iQ, iQ, iQ, iQ, iQ, iQ, iQ, iQ, trivial⟩, ?_⟩
    exact goW_done kQ (j2_mk v_7_7 v_7_8 (trivial) (hF.sub (L' := [(1, _), (2, _), (3, _), (6, _), (8, _), (9, _), (10, _)]) ⟨rfl, rfl, rfl, rfl, rfl, rfl, rfl, trivial⟩) hS)
   rintro a w ⟨v_7_7, v_7_8, -, hF, hS⟩
   (try dsimp only at hF); (try dsimp only at hS)
   refine hK10 _ _ ?_
   clear hK10
   refine wp_seq_k ?_; intro K11 hK11
   revert hF hS; apply regJ (J := J2 (α0 := Value) (α1 := Value) 57 _ _ _ _ _) #[false, false, false, false, false, false, false, false, false, false, false] 11 mixed rfl rfl
   ·intro w hF hS
    refine goW_take 0 _ rfl kQ rfl hF (hS.keep sQ zQ) (q_fieldAddr ty29 rfl rfl (s' := 0) kQ) ?_
    clear hF; intro a hF
    refine goW_take 1 _ rfl kQ rfl hF (hS.keep sQ (zQ.k.n.n.n.n)) (q_ld_blk1 ty23 0 rfl rfl rfl rfl) ?_
    clear hF; intro a hF
    refine goW_take 2 _ rfl kQ rfl hF (hS.keep sQ zQ) (q_fieldAddr ty29 rfl rfl (s' := 0) kQ) ?_
    clear hF; intro a hF
    refine goW_take 3 _ rfl kQ rfl hF (hS.keep sQ (sQ.n.n.n.n.n.n)) (q_ld_blk1 ty23 0 rfl rfl rfl rfl) ?_
    clear hF; intro a hF
    refine goW_take 4 _ rfl kQ rfl hF (hS.keep sQ zQ) (q_move rfl) ?_
    clear hF; intro a hF
    refine goW_take 5 _ rfl kQ rfl hF (hS.keep sQ zQ) (q_idx_sl ty23 ty4 hxb rfl rfl (by omega)) ?_
    clear hF; intro a hF
    refine goW_take 6 _ rfl kQ rfl hF (hS.keep sQ zQ) (q_ld_T ty4 hxb zin0 rfl rfl (by omega)) ?_
    clear hF; intro a hF
    refine gQ 7 rfl rfl hF hS rfl (ef_bsliceA ty23 ty4 rfl rfl oQ (by decide) rfl rfl) ?_
    clear hF hS; rintro v_8_7 _ _ a w ⟨rfl, rfl⟩ hF hS
    refine ⟨⟨iQ, iQ, .inr hS.k0, .inr (hS.k1 (sQ.n.n.n.n.n.n.n)), .inr hS.k0, .inr (hS.k1 (zQ.k.n.n.n.n.n)), .inr hS.k0, trivial⟩, ?_⟩
    refine gQ 8 rfl rfl hF hS rfl (ef_append ty23 ty4 3 rfl rfl rfl (src_row ty23 (k := 0) rfl oQ) bQ rfl (by decide)) ?_
    clear hF hS; rintro v_8_8 _ _ a w ⟨rfl, rfl⟩ hF hS
    refine ⟨⟨iQ, iQ, .inr hS.k0, .inr (hS.k1 (sQ.n.n.n.n.n.n.n)), .inr hS.k0, iQ, iQ, trivial⟩, ?_⟩
    refine goW_take 9 _ rfl kQ rfl hF (hS.keep sQ zQ) (q_fieldAddr ty29 rfl rfl (s' := 0) kQ) ?_
    clear hF; intro a hF
    refine gQ 10 rfl rfl hF hS rfl (ef_store1 ty23 5 rfl rfl rfl (row_one (hS.own _ (List.mem_of_getElem? (i := 3) rfl)).1) (by simp)) ?_
    clear hF hS; rintro _ _ _ a w ⟨rfl, rfl, rfl⟩ hF hS
    replace hS : St _ [] [_, _, _, _, _, .blk _ _ ([_, _, _].set 2 _), _, _] _ := hS
    simp only [List.set_cons_zero, List.set_cons_succ] at hS
    replace hS : St _ [] [_, _, _, _, _, _, _, _] _ := hS
    refine ⟨⟨iQ, iQ, iQ, iQ, iQ, iQ, iQ, iQ, trivial⟩, ?_⟩
    exact goW_done kQ (j2_mk v_8_7 v_8_8 (trivial) (hF.sub (L' := [(1, _), (2, _), (3, _), (6, _), (8, _), (9, _), (10, _)]) ⟨rfl, rfl, rfl, rfl, rfl, rfl, rfl, trivial⟩) hS)
   rintro a w ⟨v_8_7, v_8_8, -, hF, hS⟩
   (try dsimp only at hF); (try dsimp only at hS)
   refine hK11 _ _ ?_
   clear hK11
   refine regl ?_
   refine wpl_sq hF hS (sq rfl (q_move rfl) <|
     sq rfl (q_move rfl) <|
     sq rfl (q_move rfl) <|
     sq rfl (q_idx_sl ty23 ty4 hb rfl rfl (by omega)) <|
     sq rfl (q_ld_T ty4 hb zin0 rfl rfl (by omega)) <|
     sq_end) ?_
   clear hF hS; intro a w hF hS
   refine wpl_ef hF hS rfl (ef_bsliceA ty23 ty4 rfl rfl oQ (by decide) rfl rfl) ?_
   clear hF hS; rintro v7 _ _ a w ⟨rfl, rfl⟩ hF hS
   replace hS : St _ [] [_, _, _, _, _, _, _, _, _] _ := hS
   refine wpl_ef hF hS rfl (ef_append ty23 ty4 3 rfl rfl rfl (src_row ty23 (k := 0) rfl oQ) bQ rfl (by decide)) ?_
   clear hF hS; rintro v9 _ _ a w ⟨rfl, rfl⟩ hF hS
   replace hS : St _ [] [_, _, _, _, _, _, _, _, _] _ := hS
   refine wpl_sq hF hS (sq rfl (q_assign rfl) <|
     sq_end) ?_
   clear hF hS; intro a w hF hS
   refine wpList_nil ?_
   refine hK8 _ _ ?_
   clear hK8
   refine reg hF hS (sq rfl (q_move rfl) <|
     sq rfl (q_addi rfl rfl (by omega)) <|
     sq rfl (q_assign rfl) <|
     sq_end) ?_
   clear hF hS; intro a w hF hS
   replace hS := hS.keep zQ (sQ.n.n.n)
   refine ⟨(v_7_8, v_8_8, v9, i + 1), ?_, ?_, hF.sub ⟨rfl, rfl, rfl, rfl, rfl, rfl, rfl, trivial⟩, ?_⟩
   ·(try dsimp only); omega
   ·(try dsimp only); omega
   ·dsimp only; rw [show (i + 1).toNat = i.toNat + 1 by omega, Gu.ptX_step hc2, Gu.ptB_step hc2, Gu.ptB_step hc2, List.map_append, List.map_append, List.map_append, List.length_append]; exact hS
  ·refine wp_skip ?_
   refine hK8 _ _ ?_
   clear hK8
   refine reg hF hS (sq rfl (q_move rfl) <|
     sq rfl (q_addi rfl rfl (by omega)) <|
     sq rfl (q_assign rfl) <|
     sq_end) ?_
   clear hF hS; intro a w hF hS
   refine ⟨(u1, u2, u3, i + 1), ?_, ?_, hF.sub ⟨rfl, rfl, rfl, rfl, rfl, rfl, rfl, trivial⟩, ?_⟩
   ·(try dsimp only); omega
   ·(try dsimp only); omega
   ·dsimp only; rw [show (i + 1).toNat = i.toNat + 1 by omega, Gu.ptX_stay hc2, Gu.ptB_stay hc2, Gu.ptB_stay hc2]; exact hS
 ·obtain rfl : i = xs.length := by omega
  rw [Int.toNat_natCast] at hS hel
  refine wp_exit ?_
  refine hK4 _ _ ?_
  clear hK4
  refine wp_seq_k ?_; intro K12 hK12
  refine regl ?_
  refine wpl_sq hF hS (sq rfl (q_ld_blkW ty29 3 rfl rfl bQ rfl) <|
    sq rfl (q_move rfl) <|
    sq_end) ?_
  clear hF hS; intro a w hF hS
  refine wpl_ef hF hS rfl (ef_storeW ty29 4 rfl rfl rfl rfl bQ (oc_cons hxn (oc_cons (row_one (hS.own _ (List.mem_of_getElem? (i := 2) rfl)).1) (oc_cons (row_one (hS.own _ (List.mem_of_getElem? (i := 1) rfl)).1) oc_nil))) bQ) ?_
  clear hF hS; rintro _ _ _ a w ⟨rfl, rfl, rfl⟩ hF hS
  replace hS : St _ [] [_, _, _, _, _, _] _ := hS
  refine wpl_sq hF hS (sq rfl (q_assign rfl) <|
    sq_end) ?_
  clear hF hS; intro a w hF hS
  refine wpList_nil ?_
  refine hK12 _ _ ?_
  clear hK12
  refine wp_ret ?_
  obtain ⟨zm, hzm, hS⟩ := St.freezeV (f := vt) (p := fun _ => True) hS (by first | rfl | exact (Gu.ptB_len _ _ _ _).symm) (by omega) (fun _ _ => trivial)
  obtain ⟨zb, hzb, hS⟩ := St.freezeV (f := vt) (p := fun _ => True) hS (by first | rfl | exact (Gu.ptB_len _ _ _ _).symm) (by omega) (fun _ _ => trivial)
  obtain ⟨zi, hzi, hS⟩ := St.freezeV (f := vi) (p := fun x => -9223372036854775808 ≤ x ∧ x ≤ 9223372036854775807) hS (by first | rfl | exact (Gu.ptB_len _ _ _ _).symm) (by omega) (fun x hx => sl_rng hxs x (Gu.ptX_mem xs s _ (Nat.le_refl _) x hx))
  obtain ⟨zu, hzu, hS⟩ := hS.union
  exact fn_ret (rs := [.cell 6 29, .tmp 7]) rfl hF hS (vs := [_, _]) ⟨⟨_, _, _, _, _, _, _, rfl, List.mem_of_getElem? (i := 1) rfl, ty29, .inl ⟨rfl, bQ, rfl⟩⟩, rfl, trivial⟩ (zs' := [zu]) (hs' := []) (List.singleton_sublist.2 (by simp)) zQ ⟨_, _, _, zu, rfl, hzi.mono (hzu _ (by simp)), hzb.mono (hzu _ (by simp)), hzm.mono (hzu _ (by simp)), rfl, rfl⟩
end Go.Proofs.Ytcbjemjohacbpaa
