/- A text of a proof over this seat: walks over the program's functions and the plain laws that they need. -/
import Derived.Test.YtefjpigmgmbghaaHu15
import Derived.Test.YtefjpigmgmbghaaHpA
import Derived.Test.YtefjpigmgmbghaaFwD
import Derived.Test.YtefjpigmgmbghaaFwB
set_option linter.all false
namespace Go.Proofs.Ytefjpigmgmbghaa
open Go.Fw
theorem ty64 : Tf Try.prog 64 (.slice 24) 1 24 (Value.slice none 0 0) := ⟨Try.underlying64, by kernel_rfl⟩
theorem fn37 : FnOk Try.prog 37 := ⟨_, Try.func37, rfl, by kernel_rfl⟩

set_option maxRecDepth 4000 in
set_option maxHeartbeats 2000000 in
theorem rrun_ct (xN xS xB : Value) (xs : List Int) (xb : List Bool) (kV : Value) (ks : List (List UInt8)) (v2 : Value) (bad : List Bool) (hl : xs.length < 1048576) (w : World) (hxn : xN.oneCell' = true) (hxs : Sl encI (ph w) xS xs) (hxb : Sl encT (ph w) xB xb) (hk : Sl (encA 16) (ph w) kV ks) (hb : Sl encT (ph w) v2 bad) : Ct Try.prog 37 [.agg [xN, xS, xB].toArray, kV, v2] w (RunR (Hu.runA xs xb ks bad) (Hu.runF xs xb ks bad) (Hu.runE xs xb ks bad)) := by
 refine fn_enter Try.func37 rfl Try.ntmps37 (Nat.le_of_ble_eq_true rfl) fun a hF hS => ?_
 have hsl := hxs.1
 have hkl := hk.1
 have hbl := hb.1
 refine wp_seq_k ?_; intro K1 hK1
 refine regl ?_
 refine wpl_ef hF hS rfl (ef_boxA rfl) ?_
 clear hF hS; rintro _ _ _ a w ⟨b1, rfl, rfl, rfl⟩ hF hS
 refine wpl_sq hF hS (sq rfl (q_assign rfl) <|
   sq rfl (q_assign rfl) <|
   sq rfl (q_assign rfl) <|
   sq_end) ?_
 clear hF hS; intro a w hF hS
 refine wpList_nil ?_
 refine hK1 _ _ ?_
 clear hK1
 refine wp_seq_k ?_; intro K2 hK2
 refine regl ?_
 refine wpl_sq hF hS (sq rfl (q_ld_blkW ty26 0 rfl rfl bQ rfl) <|
   sq rfl (q_move rfl) <|
   sq_end) ?_
 clear hF hS; intro a w hF hS
 refine wpl_ef hF hS rfl (ef_call fn18 rfl (fun w hS => rnew_ct _ _ _ _ _ _ _ (by omega) w hxn (Sl.mono (hS.le zin0) hxs) (Sl.mono (hS.le zin0) hxb) (Sl.mono (hS.le zin0) hk))) ?_
 clear hF hS; rintro _ _ _ a w ⟨_, _, rfl, rfl, ⟨kN, mN, zN, rfl, hkN, hmN, rfl, rfl⟩⟩ hF hS
 replace hS : St _ [_] [_] _ := hS
 refine wpl_sq hF hS (sq rfl (q_move rfl) <|
   sq rfl (q_extract rfl rfl) <|
   sq rfl (q_extract rfl rfl) <|
   sq_end) ?_
 clear hF hS; intro a w hF hS
 refine wpl_ef hF hS rfl (ef_allocA ty31) ?_
 clear hF hS; rintro _ _ _ a w ⟨b3, rfl, rfl, rfl⟩ hF hS
 refine wpl_ef hF hS rfl (ef_storeW ty31 0 rfl rfl rfl rfl bQ (oc_cons (sl_one' hkN) (oc_cons (sl_one' hmN) oc_nil)) bQ) ?_
 clear hF hS; rintro _ _ _ a w ⟨rfl, rfl, rfl⟩ hF hS
 replace hS : St _ [_] [_, _] _ := hS
 refine wpl_sq hF hS (sq rfl (q_assign rfl) <|
   sq_end) ?_
 clear hF hS; intro a w hF hS
 refine wpList_nil ?_
 refine hK2 _ _ ?_
 clear hK2
 refine wp_seq_k ?_; intro K3 hK3
 refine wp_seq_k ?_; intro K4 hK4
 refine regl ?_
 refine wpl_sq hF hS (sq rfl (q_move rfl) <|
   sq rfl (q_nei rfl rfl) <|
   sq rfl (q_move rfl) <|
   sq_end) ?_
 clear hF hS; intro a w hF hS
 refine wpl_or 2 25 6 hF hS rfl rfl rfl rfl rfl (fun hg => have hg := (nd_false hg); sq_go 25 rfl rfl rfl (q_move rfl) <|
   sq_go 25 rfl rfl rfl (q_len_sl ty24 hb rfl) <|
   sq_go 25 rfl rfl rfl (q_fieldAddr ty26 rfl rfl (s' := 0) kQ) <|
   sq_go 25 rfl rfl rfl (q_ld_blk1 ty22 1 rfl rfl rfl rfl) <|
   sq_go 25 rfl rfl rfl (q_len_sl ty22 hxs rfl) <|
   sq_go 25 rfl rfl rfl (q_nei rfl rfl) <|
   sq_end) rfl rfl ?_
 clear hF hS; intro a w hF hS
 refine wpList_nil ?_
 refine hK4 _ _ ?_
 clear hK4
 refine wp_if hF rfl (fun hc1 => ?_) (fun hc1 => ?_)
 ·(try simp only [Bool.or_eq_true, Bool.and_eq_true, Bool.or_eq_false_iff, Bool.and_eq_false_iff, decide_eq_true_eq, decide_eq_false_iff_not, Bool.not_eq_true', Bool.not_eq_false'] at hc1)
  refine wp_seq_k ?_; intro K5 hK5
  refine reg hF hS (sq rfl (q_assign rfl) <|
    sq rfl (q_assign rfl) <|
    sq rfl (q_assign rfl) <|
    sq_end) ?_
  clear hF hS; intro a w hF hS
  refine hK5 _ _ ?_
  clear hK5
  refine wp_ret ?_
  replace hS := hS.zone00
  exact fn_ret (rs := [.tmp 6, .tmp 7, .tmp 8]) rfl hF hS (vs := [_, _, _]) ⟨rfl, rfl, rfl, trivial⟩ (zs' := [fun _ => none]) (hs' := []) (List.singleton_sublist.2 (by simp)) zQ (run_of (L := []) (F := []) (e := 1) ⟨_, _, _, rfl, sl_nil, sl_nil, rfl, rfl⟩ (Hu.run_err (Hu.run_bad hc1)))
 ·(try simp only [Bool.or_eq_true, Bool.and_eq_true, Bool.or_eq_false_iff, Bool.and_eq_false_iff, decide_eq_true_eq, decide_eq_false_iff_not, Bool.not_eq_true', Bool.not_eq_false'] at hc1)
  have hnu := Hu.newK_use (xs := xs) (xb := xb) (ks := ks) (by omega)
  obtain ⟨hno, hnk, hne⟩ := hnu
  rw [hne] at hkN hmN
  replace hkN : Sl (encA 16) zN kN ks := hkN
  replace hmN : Sl encI zN mN (List.replicate ks.length 0) := hmN
  have hxl := Hu.ordB_len hno
  have hbl9 : bad.length = xs.length := by omega
  have hok9 := Hu.runOk_ok hno hnk hbl9
  refine wp_skip ?_
  refine hK3 _ _ ?_
  clear hK3
  refine wp_seq_k ?_; intro K6 hK6
  refine reg hF hS (sq rfl (q_assign rfl) <|
    sq_end) ?_
  clear hF hS; intro a w hF hS
  replace hS := hS.nilRow 3 1
  refine hK6 _ _ ?_
  clear hK6
  refine wp_seq_k ?_; intro K7 hK7
  refine reg hF hS (sq rfl (q_ld_blkW ty26 2 rfl rfl bQ rfl) <|
    sq rfl (q_ld_blkW ty31 1 rfl rfl bQ rfl) <|
    sq rfl (q_call fn29 rfl (fun w hS => rnext_ct _ _ _ _ _ _ _ _ _ (by omega) w hxn (Sl.mono (hS.le zin0) hxs) (Sl.mono (hS.le zin0) hxb) (Sl.mono (hS.le (.inr (by simp))) hkN) (Sl.mono (hS.le (.inr (by simp))) hmN)) (fun _ _ _ h => h)) <|
    sq rfl (q_move rfl) <|
    sq rfl (q_extract rfl rfl) <|
    sq rfl (q_extract rfl rfl) <|
    sq rfl (q_extract rfl rfl) <|
    sq rfl (q_assign rfl) <|
    sq rfl (q_assign rfl) <|
    sq rfl (q_assign rfl) <|
    sq_end) ?_
  clear hF hS; intro a w hF hS
  refine hK7 _ _ ?_
  clear hK7
  refine wp_seq_k ?_; intro K8 hK8
  refine wp_block ?_
  obtain ⟨hs0, hhs0, hS⟩ : ∃ h, h = _ ∧ St _ _ h _ := ⟨_, rfl, hS⟩
  obtain ⟨zs0, hzs0, hS⟩ : ∃ h, h = _ ∧ St _ h _ _ := ⟨_, rfl, hS⟩
  replace hS := hS.dupz (z := zN) (by subst hzs0; simp)
  refine wp_loopz (γ := Value × PH × Value × Value × List Int × List Int × Nat) ((Value.slice none 0 0), zN, kN, mN, (List.replicate ks.length 0), [], 0) (fun (gg : Value × PH × Value × Value × List Int × List Int × Nat) => match gg with | (u, z, kv, mv, m, L, j) => z :: zs0) (fun (gg : Value × PH × Value × Value × List Int × List Int × Nat) => match gg with | (u, z, kv, mv, m, L, j) => [(11, u), (12, vi (Hu.nxS xs xb ks m)), (13, .bool (Hu.nxO xs xb ks m))]) [(2, _), (3, _), (9, _)] (fun (gg : Value × PH × Value × Value × List Int × List Int × Nat) => match gg with | (u, z, kv, mv, m, L, j) => ((hs0.set 1 (.blk b3 31 [kv, mv])).set 0 (.row u 3 1 L.length (L.map vi)))) (fun (gg : Value × PH × Value × Value × List Int × List Int × Nat) => match gg with | (u, z, kv, mv, m, L, j) => Sl (encA 16) z kv ks ∧ Sl encI z mv m ∧ Hu.runS xs xb ks bad j = (m, L) ∧ Hu.fitB xs xb ks m = true ∧ j + Hu.zc m ≤ xs.length ∧ L.length = j ∧ ∀ x ∈ L, x ∈ xs) (fun (gg : Value × PH × Value × Value × List Int × List Int × Nat) => match gg with | (u, z, kv, mv, m, L, j) => Hu.zc m) (hF.sub ⟨rfl, rfl, rfl, rfl, rfl, rfl, trivial⟩) (by subst hhs0; exact hS) (by exact ⟨hkN, hmN, rfl, Hu.fit_new hno hnk, by have := Hu.zc_le (List.replicate ks.length 0); rw [List.length_replicate] at this; omega, rfl, fun x hx => by cases hx⟩) ?_
  clear hF hS; rintro ⟨u, z, kv, mv, m, L, j⟩ a w hfact hF hS
  subst hhs0; subst hzs0; (try dsimp only at hfact); (try dsimp only at hF); (try dsimp only at hS)
  obtain ⟨hkz, hmz, hrj, hft9, hzc9, hLl, hAx⟩ := hfact
  replace hS : St _ [_, _] [_, _, _] _ := hS
  have hfu := Hu.fit_use hft9
  refine wp_seq_k ?_; intro K9 hK9
  refine wp_seq_k ?_; intro K10 hK10
  refine reg hF hS (sq rfl (q_move rfl) <|
    sq_end) ?_
  clear hF hS; intro a w hF hS
  refine hK10 _ _ ?_
  clear hK10
  refine wp_if hF rfl (fun hc2 => ?_) (fun hc2 => ?_)
  ·have hnx : Hu.nxO xs xb ks m = true := by simpa using hc2
   obtain ⟨b, hb9, hb1, hb2, hb3, hb4, hb5⟩ := Hu.tel_use hnx (bad.getD (Gu.ixF (fun y => decide ((Hu.nxS xs xb ks m) = y)) xs).toNat false)
   have hb1x : (Gu.ixF (fun y => decide ((Hu.nxS xs xb ks m) = y)) xs) = (b : Int) := hb1
   have hzcl := Hu.zc_tel hft9 hb9 hb2 hb3 (Hu.markOf_rng (bad.getD (Gu.ixF (fun y => decide ((Hu.nxS xs xb ks m) = y)) xs).toNat false))
   have hnm : (Hu.nxS xs xb ks m) ∈ xs := by obtain ⟨_, b2, hb2a, _, _, _, hb2e, _⟩ := Hu.nx_use hnx; rw [hb2e]; exact getD_mem hb2a
   refine wp_skip ?_
   refine hK9 _ _ ?_
   clear hK9
   refine wp_block ?_
   refine wp_seq_k ?_; intro K11 hK11
   refine regl ?_
   refine wpl_sq hF hS (sq rfl (q_move rfl) <|
     sq rfl (q_move rfl) <|
     sq_end) ?_
   clear hF hS; intro a w hF hS
   refine wpl_ef hF hS rfl (ef_bsliceA ty22 ty3 rfl rfl oQ (by decide) rfl rfl) ?_
   clear hF hS; rintro v5 _ _ a w ⟨rfl, rfl⟩ hF hS
   replace hS : St _ [_, _] [_, _, _, _] _ := hS
   refine wpl_ef hF hS rfl (ef_append ty22 ty3 1 rfl rfl rfl (src_row ty22 (k := 0) rfl oQ) bQ rfl (by decide)) ?_
   clear hF hS; rintro v7 _ _ a w ⟨rfl, rfl⟩ hF hS
   replace hS : St _ [_, _] [_, _, _, _] _ := hS
   refine wpl_sq hF hS (sq rfl (q_assign rfl) <|
     sq_end) ?_
   clear hF hS; intro a w hF hS
   refine wpList_nil ?_
   refine hK11 _ _ ?_
   clear hK11
   refine wp_seq_k ?_; intro K12 hK12
   revert hS; revert hF; apply regJ (J := J3 (α0 := Value) (α1 := Value) (α2 := PH) 74 _ _ _ _ _) #[false, false, false, false, false, false, false, false, false, false, false, false, false, false] 14 mixed rfl rfl
   ·intro w hF hS
    refine goW_take 0 _ rfl kQ rfl hF (hS.keep sQ (sQ.n.n.n)) (q_ld_blkW ty26 0 rfl rfl bQ rfl) ?_
    clear hF; intro a hF
    refine goW_take 1 _ rfl kQ rfl hF (hS.keep sQ (zQ.k.n.n)) (q_ld_blkW ty31 0 rfl rfl bQ rfl) ?_
    clear hF; intro a hF
    refine goW_take 2 _ rfl kQ rfl hF (hS.keep sQ zQ) (q_move rfl) ?_
    clear hF; intro a hF
    refine goW_take 3 _ rfl kQ rfl hF (hS.keep sQ zQ) (q_move rfl) ?_
    clear hF; intro a hF
    refine goW_take 4 _ rfl kQ rfl hF (hS.keep sQ (sQ.n.n.n)) (q_ld_blkW ty26 0 rfl rfl bQ rfl) ?_
    clear hF; intro a hF
    refine goW_take 5 _ rfl kQ rfl hF (hS.keep sQ zQ) (q_move rfl) ?_
    clear hF; intro a hF
    refine gQ 6 rfl rfl hF hS rfl (ef_qt (q_call fn45 rfl (fun w hS => rix_ct _ _ _ _ _ _ w hxn (Sl.mono (hS.le zin0) hxs) (Sl.mono (hS.le zin0) hxb)) (fun _ _ _ h => h))) ?_
    clear hF hS; rintro _ _ _ a w ⟨rfl, rfl, rfl⟩ hF hS
    refine ⟨⟨iQ, iQ, .inr (hS.keep sQ zQ), .inr (hS.keep sQ zQ), .inr (hS.keep sQ (zQ.k.n.n)), .inr (hS.keep sQ (sQ.n.n.n)), trivial⟩, ?_⟩
    refine goW_take 7 _ rfl kQ rfl hF (hS.keep sQ zQ) (q_idx_sl ty24 ty4 hb rfl rfl (by omega)) ?_
    clear hF; intro a hF
    refine goW_take 8 _ rfl kQ rfl hF (hS.keep sQ zQ) (q_ld_T ty4 hb zin0 rfl rfl (by omega)) ?_
    clear hF; intro a hF
    refine gQ 9 rfl rfl hF hS rfl (ef_call fn24 rfl (fun w hS => rtell_ct _ _ _ _ _ _ _ _ _ _ _ (by omega) w hxn (Sl.mono (hS.le zin0) hxs) (Sl.mono (hS.le zin0) hxb) (Sl.mono (hS.le (.inr (by simp))) hkz) (Sl.mono (hS.le (.inr (by simp))) hmz))) ?_
    clear hF hS; rintro _ _ _ a w ⟨_, _, rfl, rfl, ⟨kT, mT, zT, rfl, hkT, hmT, rfl, rfl⟩⟩ hF hS
    refine ⟨⟨iQ, iQ, iQ, iQ, .inr (hS.keep (sQ.n) zQ), iQ, iQ, iQ, trivial⟩, ?_⟩
    refine goW_take 10 _ rfl kQ rfl hF (hS.keep sQ zQ) (q_move rfl) ?_
    clear hF; intro a hF
    refine goW_take 11 _ rfl kQ rfl hF (hS.keep sQ zQ) (q_extract rfl rfl) ?_
    clear hF; intro a hF
    refine goW_take 12 _ rfl kQ rfl hF (hS.keep sQ zQ) (q_extract rfl rfl) ?_
    clear hF; intro a hF
    refine gQ 13 rfl rfl hF hS rfl (ef_storeW ty31 2 rfl rfl rfl rfl bQ (oc_cons (sl_one' hkT) (oc_cons (sl_one' hmT) oc_nil)) bQ) ?_
    clear hF hS; rintro _ _ _ a w ⟨rfl, rfl, rfl⟩ hF hS
    refine ⟨⟨.inr (hS.keep sQ zQ), iQ, iQ, iQ, iQ, iQ, iQ, iQ, iQ, iQ, iQ, trivial⟩, ?_⟩
    exact goW_done kQ (j3_mk kT mT zT ((And.intro hkT (And.intro hmT trivial))) (hF.sub (L' := [(2, _), (3, _), (9, _), (11, _)]) ⟨rfl, rfl, rfl, rfl, trivial⟩) hS)
   rintro a w ⟨kT, mT, zT, ⟨hkT, hmT, -⟩, hF, hS⟩
   (try dsimp only at hF); (try dsimp only at hS)
   rw [hb4] at hkT hmT
   replace hkT : Sl (encA 16) zT kT ks := hkT
   replace hmT : Sl encI zT mT (Hu.tlm xb ks m ((b : Nat) : Int) (Hu.markOf (bad.getD (Gu.ixF (fun y => decide ((Hu.nxS xs xb ks m) = y)) xs).toNat false)) xs.length) := hmT
   refine hK12 _ _ ?_
   clear hK12
   refine reg hF hS (sq rfl (q_ld_blkW ty26 3 rfl rfl bQ rfl) <|
     sq rfl (q_ld_blkW ty31 2 rfl rfl bQ rfl) <|
     sq rfl (q_call fn29 rfl (fun w hS => rnext_ct _ _ _ _ _ _ _ _ _ (by omega) w hxn (Sl.mono (hS.le zin0) hxs) (Sl.mono (hS.le zin0) hxb) (Sl.mono (hS.le (.inr (by simp))) hkT) (Sl.mono (hS.le (.inr (by simp))) hmT)) (fun _ _ _ h => h)) <|
     sq rfl (q_move rfl) <|
     sq rfl (q_extract rfl rfl) <|
     sq rfl (q_extract rfl rfl) <|
     sq rfl (q_extract rfl rfl) <|
     sq rfl (q_assign rfl) <|
     sq rfl (q_assign rfl) <|
     sq_end) ?_
   clear hF hS; intro a w hF hS
   replace hS := hS.keep (sQ.n.k) (sQ.n)
   refine ⟨(v7, zT, kT, mT, (Hu.tlm xb ks m ((b : Nat) : Int) (Hu.markOf (bad.getD (Gu.ixF (fun y => decide ((Hu.nxS xs xb ks m) = y)) xs).toNat false)) xs.length), L ++ [(Hu.nxS xs xb ks m)], j + 1), ?_, ?_, hF.sub ⟨rfl, rfl, rfl, rfl, rfl, rfl, trivial⟩, ?_⟩
   ·(try dsimp only); omega
   ·exact ⟨hkT, hmT, by rw [Hu.run_step hrj hnx]; show ((Hu.telK xs xb ks m (Hu.nxS xs xb ks m) (bad.getD (Gu.ixF (fun y => decide ((Hu.nxS xs xb ks m) = y)) xs).toNat false)).2.1, _) = _; rw [hb4], hb5, by omega, by rw [List.length_append]; simp; omega, fun x hx => (List.mem_append.1 hx).elim (hAx x) fun h => by rw [List.mem_singleton.1 h]; exact hnm⟩
   ·dsimp only; rw [List.length_append, List.map_append]; exact hS
  ·have hnx : Hu.nxO xs xb ks m = false := by simpa using hc2
   refine wp_exit ?_
   refine hK8 _ _ ?_
   clear hK8
   refine wp_seq_k ?_; intro K13 hK13
   refine regl ?_
   refine wpl_sq hF hS (sq rfl (q_ld_blkW ty26 2 rfl rfl bQ rfl) <|
     sq rfl (q_ld_blkW ty31 1 rfl rfl bQ rfl) <|
     sq_end) ?_
   clear hF hS; intro a w hF hS
   refine wpl_ef hF hS rfl (ef_call fn33 rfl (fun w hS => rfound_ct _ _ _ _ _ _ _ _ _ (by omega) w hxn (Sl.mono (hS.le zin0) hxs) (Sl.mono (hS.le zin0) hxb) (Sl.mono (hS.le (.inr (by simp))) hkz) (Sl.mono (hS.le (.inr (by simp))) hmz))) ?_
   clear hF hS; rintro _ _ _ a w ⟨_, _, rfl, rfl, ⟨vF, zF, hzF, rfl, rfl, rfl⟩⟩ hF hS
   replace hS : St _ [_, _, _] [_, _, _] _ := hS
   refine wpl_sq hF hS (sq rfl (q_move rfl) <|
     sq rfl (q_extract rfl rfl) <|
     sq rfl (q_extract rfl rfl) <|
     sq rfl (q_assign rfl) <|
     sq rfl (q_assign rfl) <|
     sq_end) ?_
   clear hF hS; intro a w hF hS
   refine wpList_nil ?_
   refine hK13 _ _ ?_
   clear hK13
   refine wp_seq_k ?_; intro K14 hK14
   refine reg hF hS (sq rfl (q_move rfl) <|
     sq rfl (q_move rfl) <|
     sq rfl (q_move rfl) <|
     sq rfl (q_assign rfl) <|
     sq rfl (q_assign rfl) <|
     sq rfl (q_assign rfl) <|
     sq_end) ?_
   clear hF hS; intro a w hF hS
   refine hK14 _ _ ?_
   clear hK14
   refine wp_ret ?_
   obtain ⟨zm, hzm, hS⟩ := St.freezeV (h0 := fun _ => rfl) (f := vi) (p := fun x => -9223372036854775808 ≤ x ∧ x ≤ 9223372036854775807) (xs := L) hS rfl (by omega) (fun x hx => sl_rng hxs x (hAx x hx))
   replace hS : St _ [_, _, _, _] [_, _] _ := hS
   obtain ⟨zu, hzu, hS⟩ := hS.union
   have hfin := Hu.run_fin hok9 hrj hnx (by omega)
   exact fn_ret (rs := [.tmp 6, .tmp 7, .tmp 8]) rfl hF hS (vs := [_, _, _]) ⟨rfl, rfl, rfl, trivial⟩ (zs' := [zu]) (hs' := []) (List.singleton_sublist.2 (by simp)) zQ (run_of (e := Hu.kE xs xb ks m) ⟨_, _, zu, rfl, Sl.mono (hzu _ (by simp)) hzm, Sl.mono (hzu _ (by simp)) hzF, rfl, rfl⟩ ⟨hfin.1, hfin.2.1, hfin.2.2.trans (Hu.kE_t hft9).symm⟩)

set_option maxRecDepth 4000 in
set_option maxHeartbeats 2000000 in
theorem law33_ct (v : Value) (l : List Int) (v2 : Value) (m : List Int) (v3 : Value) (n : List Int) (h : Int) (hh9 : -9223372036854775808 ≤ h ∧ h ≤ 9223372036854775807) (b : Int) (hb9 : -9223372036854775808 ≤ b ∧ b ≤ 9223372036854775807) (v6 : Value) (rw_ : List Bool) (w : World) (hl : Sl encI (ph w) v l) (hm : Sl encI (ph w) v2 m) (hn : Sl encI (ph w) v3 n) (hr : Sl encT (ph w) v6 rw_) : Ct Try.prog 5 [v, v2, v3, vi h, vi b, v6] w (fun r _ _ => r = .bool true) := by
 refine fn_enter Try.func5 rfl Try.ntmps5 (Nat.le_of_ble_eq_true rfl) fun a hF hS => ?_
 have hrl := hr.1
 refine wp_seq_k ?_; intro K1 hK1
 refine reg hF hS (sq rfl (q_assign rfl) <|
   sq_end) ?_
 clear hF hS; intro a w hF hS
 refine hK1 _ _ ?_
 clear hK1
 refine wp_seq_k ?_; intro K2 hK2
 refine regl ?_
 refine wpl_sq hF hS (sq rfl (q_move rfl) <|
   sq_end) ?_
 clear hF hS; intro a w hF hS
 refine wpl_ef hF hS rfl (ef_call fn10 rfl (fun w hS => family_ct _ _ w (Sl.mono (hS.le zin0) hl))) ?_
 clear hF hS; rintro _ _ _ a w ⟨_, _, rfl, rfl, ⟨nvF, svF, bvF, ns, xs, xb, zF, rfl, hnF, hsF, hbF, lnF, lsF, lbF, leqF, rfl, rfl⟩⟩ hF hS
 replace hS : St _ [_] [] _ := hS
 refine wpl_ef hF hS rfl (ef_allocA ty26) ?_
 clear hF hS; rintro _ _ _ a w ⟨b2, rfl, rfl, rfl⟩ hF hS
 refine wpl_ef hF hS rfl (ef_storeW ty26 0 rfl rfl rfl rfl bQ (oc_cons (sl_one' hnF) (oc_cons (sl_one' hsF) (oc_cons (sl_one' hbF) oc_nil))) bQ) ?_
 clear hF hS; rintro _ _ _ a w ⟨rfl, rfl, rfl⟩ hF hS
 replace hS : St _ [_] [_] _ := hS
 refine wpList_nil ?_
 refine hK2 _ _ ?_
 clear hK2
 refine wp_seq_k ?_; intro K3 hK3
 refine regl ?_
 refine wpl_sq hF hS (sq rfl (q_ld_blkW ty26 0 rfl rfl bQ rfl) <|
   sq rfl (q_move rfl) <|
   sq_end) ?_
 clear hF hS; intro a w hF hS
 refine wpl_ef hF hS rfl (ef_call fn11 rfl (fun w hS => keys_ct _ _ _ _ _ _ _ (by first | with_reducible assumption | omega) w (sl_one' hnF) (Sl.mono (hS.le (.inr (by simp))) hsF) (Sl.mono (hS.le (.inr (by simp))) hbF) (Sl.mono (hS.le zin0) hm))) ?_
 clear hF hS; rintro v3 _ _ a w ⟨_, _, rfl, rfl, ⟨zY, hzY, rfl, rfl⟩⟩ hF hS
 replace hS : St _ [_, _] [_] _ := hS
 refine wpl_sq hF hS (sq rfl (q_assign rfl) <|
   sq_end) ?_
 clear hF hS; intro a w hF hS
 refine wpList_nil ?_
 obtain ⟨heq, hfam, hx0⟩ := leqF
 obtain ⟨ks, hks⟩ : ∃ ks, ks = Hu.kyl m xs.length := ⟨_, rfl⟩
 have hkl9 : ks.length = xs.length := by rw [hks, Hu.kyl_len]
 rw [← hks] at hzY
 refine hK3 _ _ ?_
 clear hK3
 refine wp_seq_k ?_; intro K4 hK4
 refine regl ?_
 refine wpl_sq hF hS (sq rfl (q_move rfl) <|
   sq rfl (q_move rfl) <|
   sq_end) ?_
 clear hF hS; intro a w hF hS
 refine wpl_ef hF hS rfl (ef_call fn13 rfl (fun w hS => truth_ct _ _ _ _ (by first | with_reducible assumption | omega) w (Sl.mono (hS.le (.inr (by simp))) hzY) (Sl.mono (hS.le zin0) hn))) ?_
 clear hF hS; rintro v4 _ _ a w ⟨_, _, rfl, rfl, ⟨zU, hzU, rfl, rfl⟩⟩ hF hS
 replace hS : St _ [_, _, _] [_] _ := hS
 refine wpl_sq hF hS (sq rfl (q_assign rfl) <|
   sq_end) ?_
 clear hF hS; intro a w hF hS
 refine wpList_nil ?_
 obtain ⟨bd, hbd⟩ : ∃ bd, bd = Hu.tru n ks ks.length := ⟨_, rfl⟩
 rw [← hbd] at hzU
 have hbdl : bd.length = ks.length := by rw [hbd]; exact Hu.tru_len _ _ _
 refine hK4 _ _ ?_
 clear hK4
 refine wp_seq_k ?_; intro K5 hK5
 refine regl ?_
 refine wpl_ef hF hS rfl (ef_bslice0 ty24 ty4) ?_
 clear hF hS; rintro v5 _ _ a w ⟨rfl, rfl⟩ hF hS
 replace hS : St _ [_, _, _] [_, _] _ := hS
 refine wpl_sq hF hS (sq rfl (q_move rfl) <|
   sq_end) ?_
 clear hF hS; intro a w hF hS
 refine wpl_ef hF hS rfl (ef_append ty24 ty4 0 rfl rfl rfl (src_slV ty24 hzU (.inr (by simp))) bQ rfl (by decide)) ?_
 clear hF hS; rintro v7 _ _ a w ⟨rfl, rfl⟩ hF hS
 replace hS : St _ [_, _, _] [_, _] _ := hS
 refine wpl_sq hF hS (sq rfl (q_assign rfl) <|
   sq_end) ?_
 clear hF hS; intro a w hF hS
 refine wpList_nil ?_
 refine hK5 _ _ ?_
 clear hK5
 refine wp_seq_k ?_; intro K6 hK6
 refine wp_seq_k ?_; intro K7 hK7
 refine reg hF hS (sq rfl (q_assign rfl) <|
   sq_end) ?_
 clear hF hS; intro a w hF hS
 refine hK7 _ _ ?_
 clear hK7
 refine wp_block ?_
 obtain ⟨hs0, hhs0, hS⟩ : ∃ h, h = _ ∧ St _ _ h _ := ⟨_, rfl, hS⟩
 refine wp_loopx (γ := List Bool × Int) (bd, 0) (fun (gg : List Bool × Int) => match gg with | (q, j) => [(17, vi j)]) [(3, _), (4, _), (5, _), (13, _), (14, _), (15, _), (16, _)] (fun (gg : List Bool × Int) => match gg with | (q, j) => (hs0.set 0 (.row v7 4 1 bd.length (q.map vt)))) (fun (gg : List Bool × Int) => match gg with | (q, j) => q.length = bd.length ∧ 0 ≤ j ∧ j ≤ bd.length) (fun (gg : List Bool × Int) => match gg with | (q, j) => (bd.length - j).toNat) (hF.sub ⟨rfl, rfl, rfl, rfl, rfl, rfl, rfl, rfl, trivial⟩) (by subst hhs0; exact hS.rowEq (by simp) (by simp)) (by exact ⟨rfl, Int.le_refl _, by omega⟩) ?_
 clear hF hS; rintro ⟨q, j⟩ a w hfact hF hS
 subst hhs0; (try dsimp only at hfact); (try dsimp only at hF); (try dsimp only at hS)
 obtain ⟨hql, hj0, hj1⟩ := hfact
 replace hS : St _ [_, _, _] [_, _] _ := hS
 refine wp_seq_k ?_; intro K8 hK8
 refine wp_seq_k ?_; intro K9 hK9
 refine regl ?_
 refine wpl_sq hF hS (sq rfl (q_move rfl) <|
   sq rfl (q_move rfl) <|
   sq rfl (q_len_sl ty24 hr rfl) <|
   sq rfl (q_lti rfl rfl) <|
   sq rfl (q_move rfl) <|
   sq_end) ?_
 clear hF hS; intro a w hF hS
 refine wpl_and 4 43 4 hF hS rfl rfl rfl rfl rfl (fun hg => have hg := (by first | exact of_decide_eq_true hg | exact hg); sq_go 43 rfl rfl rfl (q_move rfl) <|
   sq_go 43 rfl rfl rfl (q_move rfl) <|
   sq_go 43 rfl rfl rfl (q_len_row ty24 0 rfl rfl) <|
   sq_go 43 rfl rfl rfl (q_lti rfl rfl) <|
   sq_end) rfl rfl ?_
 clear hF hS; intro a w hF hS
 refine wpList_nil ?_
 refine hK9 _ _ ?_
 clear hK9
 refine wp_if hF rfl (fun hc1 => ?_) (fun hc1 => ?_)
 ·(try simp only [Bool.or_eq_true, Bool.and_eq_true, Bool.or_eq_false_iff, Bool.and_eq_false_iff, decide_eq_true_eq, decide_eq_false_iff_not, Bool.not_eq_true', Bool.not_eq_false'] at hc1)
  refine wp_skip ?_
  refine hK8 _ _ ?_
  clear hK8
  refine wp_seq_k ?_; intro K10 hK10
  refine wp_block ?_
  refine regl ?_
  refine wpl_sq hF hS (sq rfl (q_move rfl) <|
    sq rfl (q_move rfl) <|
    sq rfl (q_move rfl) <|
    sq rfl (q_move rfl) <|
    sq rfl (q_idx_sl ty24 ty4 hr rfl rfl (by omega)) <|
    sq rfl (q_ld_T ty4 hr zin0 rfl rfl (by omega)) <|
    sq rfl (q_idx_row ty24 ty4 0 rfl rfl rfl (by omega)) <|
    sq_end) ?_
  clear hF hS; intro a w hF hS
  refine wpl_ef hF hS rfl (ef_st_row ty4 0 rfl rfl rfl (by omega) rfl) ?_
  clear hF hS; rintro _ _ _ a w ⟨rfl, rfl, rfl⟩ hF hS
  replace hS : St _ [_, _, _] [_, _] _ := hS
  refine wpList_nil ?_
  refine hK10 _ _ ?_
  clear hK10
  refine reg hF hS (sq rfl (q_move rfl) <|
    sq rfl (q_addi rfl rfl (by omega)) <|
    sq rfl (q_assign rfl) <|
    sq_end) ?_
  clear hF hS; intro a w hF hS
  refine ⟨((q.set j.toNat (rw_.getD j.toNat false)), j + 1), ?_, ?_, hF.sub ⟨rfl, rfl, rfl, rfl, rfl, rfl, rfl, rfl, trivial⟩, ?_⟩
  ·(try dsimp only); omega
  ·exact ⟨by rw [List.length_set]; exact hql, by omega, by omega⟩
  ·(try dsimp only); rw [List.map_set]; exact hS
 ·(try simp only [Bool.or_eq_true, Bool.and_eq_true, Bool.or_eq_false_iff, Bool.and_eq_false_iff, decide_eq_true_eq, decide_eq_false_iff_not, Bool.not_eq_true', Bool.not_eq_false'] at hc1)
  refine wp_exit ?_
  refine hK6 _ _ ?_
  clear hK6
  refine wp_seq_k ?_; intro K11 hK11
  revert hS; revert hF; apply regJ (J := J8 (α0 := Value) (α1 := Value) (α2 := Value) (α3 := List (List Value)) (α4 := List Int) (α5 := List Bool) (α6 := PH) (α7 := Value) 129 _ _ _ _ _) #[false, false, false, false, false, false, false, false, false, false] 10 mixed rfl rfl
  ·intro w hF hS
   refine goW_take 0 _ rfl kQ rfl hF (hS.keep sQ (sQ.n)) (q_ld_blkW ty26 0 rfl rfl bQ rfl) ?_
   clear hF; intro a hF
   refine goW_take 1 _ rfl kQ rfl hF (hS.keep sQ (sQ.n)) (q_ld_blkW ty26 0 rfl rfl bQ rfl) ?_
   clear hF; intro a hF
   refine goW_take 2 _ rfl kQ rfl hF (hS.keep sQ (sQ.n)) (q_ld_blkW ty26 0 rfl rfl bQ rfl) ?_
   clear hF; intro a hF
   refine goW_take 3 _ rfl kQ rfl hF (hS.keep sQ (sQ.n)) (q_ld_blkW ty26 0 rfl rfl bQ rfl) ?_
   clear hF; intro a hF
   refine goW_take 4 _ rfl kQ rfl hF (hS.keep sQ zQ) (q_move rfl) ?_
   clear hF; intro a hF
   refine goW_take 5 _ rfl kQ rfl hF (hS.keep sQ zQ) (q_move rfl) ?_
   clear hF; intro a hF
   refine goW_take 7 _ rfl kQ rfl hF (hS.keep sQ (sQ.n)) (q_ld_blkW ty26 0 rfl rfl bQ rfl) ?_
   clear hF; intro a hF
   refine gQ 6 rfl rfl hF hS rfl (ef_call fn14 rfl (fun w hS => odd_ct _ _ _ _ _ _ _ _ (by omega) (by omega) 40 (by omega) w (Sl.mono (hS.le (.inr (by simp))) hnF) (Sl.mono (hS.le (.inr (by simp))) hsF) (Sl.mono (hS.le (.inr (by simp))) hbF))) ?_
   clear hF hS; rintro _ _ _ a w ⟨_, _, rfl, rfl, ⟨nvO, svO, bvO, nsO, ys, yb, zO, rfl, hnO, hsO, hbO, lnO, lsO, lbO, -, rfl, rfl⟩⟩ hF hS
   refine ⟨⟨.inr (hS.keep (sQ.n) (sQ.n)), iQ, iQ, iQ, .inr (hS.keep (sQ.n) (sQ.n)), .inr (hS.keep (sQ.n) (sQ.n)), .inr (hS.keep (sQ.n) (sQ.n)), trivial⟩, ?_⟩
   refine gQ 8 rfl rfl hF hS rfl (ef_bsliceC ty35 ty26 [[_, _, _], [_, _, _], [_, _, _], [_, _, _], [_, _, _]] rfl rfl (by simp) (oc2_cons (oc_cons (sl_one' hnF) (oc_cons (sl_one' hsF) (oc_cons (sl_one' hbF) oc_nil))) (oc2_cons (oc_cons (sl_one' hnF) (oc_cons (sl_one' hsF) (oc_cons (sl_one' hbF) oc_nil))) (oc2_cons (oc_cons (sl_one' hnF) (oc_cons (sl_one' hsF) (oc_cons (sl_one' hbF) oc_nil))) (oc2_cons (oc_cons (sl_one' hnO) (oc_cons (sl_one' hsO) (oc_cons (sl_one' hbO) oc_nil))) (oc2_cons (oc_cons (sl_one' hnF) (oc_cons (sl_one' hsF) (oc_cons (sl_one' hbF) oc_nil))) oc2_nil))))) (by decide) rfl rfl) ?_
   clear hF hS; rintro v_9_8 _ _ a w ⟨rfl, rfl⟩ hF hS
   refine ⟨⟨iQ, iQ, iQ, iQ, iQ, iQ, iQ, trivial⟩, ?_⟩
   refine goW_take 9 _ rfl kQ rfl hF (hS.keep sQ zQ) (q_assign rfl) ?_
   clear hF; intro a hF
   exact goW_done kQ (j8_mk nvO svO bvO nsO ys yb zO v_9_8 ((And.intro hnO (And.intro hsO (And.intro hbO (And.intro lnO (And.intro lsO (And.intro lbO trivial))))))) (hF.sub (L' := [(5, _), (14, _), (15, _), (16, _), (18, _)]) ⟨rfl, rfl, rfl, rfl, rfl, trivial⟩) hS)
  rintro a w ⟨nvO, svO, bvO, nsO, ys, yb, zO, v_9_8, ⟨hnO, hsO, hbO, lnO, lsO, lbO, -⟩, hF, hS⟩
  (try dsimp only at hF); (try dsimp only at hS)
  replace hS := hS.perm (.swap _ _ _)
  obtain ⟨zD, hzD, hS⟩ := St.freezeV (h0 := fun _ => rfl) (f := vt) (p := fun _ => True) (xs := q) hS (by omega) (by omega) (fun _ _ => trivial)
  replace hS : St _ [_, _, _, _, _] [_, _] _ := hS
  obtain ⟨zu1, hzu1, hS⟩ := hS.union
  replace hS : St _ [_, _, _, _, _, _] [_, _] _ := hS
  obtain ⟨zL, hsL, hS⟩ := hS.freezeL (z' := zu1) (xs := [(ns, xs, xb), (ns, xs, xb), (ns, xs, xb), (nsO, ys, yb), (ns, xs, xb)]) (by simp) rfl (by decide) ⟨⟨_, _, _, rfl, hnF.mono (hzu1 _ (by simp)), hsF.mono (hzu1 _ (by simp)), hbF.mono (hzu1 _ (by simp))⟩, ⟨_, _, _, rfl, hnF.mono (hzu1 _ (by simp)), hsF.mono (hzu1 _ (by simp)), hbF.mono (hzu1 _ (by simp))⟩, ⟨_, _, _, rfl, hnF.mono (hzu1 _ (by simp)), hsF.mono (hzu1 _ (by simp)), hbF.mono (hzu1 _ (by simp))⟩, ⟨_, _, _, rfl, hnO.mono (hzu1 _ (by simp)), hsO.mono (hzu1 _ (by simp)), hbO.mono (hzu1 _ (by simp))⟩, ⟨_, _, _, rfl, hnF.mono (hzu1 _ (by simp)), hsF.mono (hzu1 _ (by simp)), hbF.mono (hzu1 _ (by simp))⟩, trivial⟩
  replace hS : St _ [_, _, _, _, _, _, _] [_] _ := hS
  have hlL : ∀ x ∈ [(ns, xs, xb), (ns, xs, xb), (ns, xs, xb), (nsO, ys, yb), (ns, xs, xb)], x.2.1.length ≤ 41 := by
   intro x hx
   simp only [List.mem_cons, List.not_mem_nil, or_false] at hx
   rcases hx with rfl | rfl | rfl | rfl | rfl
   ·show xs.length ≤ 41; omega
   ·show xs.length ≤ 41; omega
   ·show xs.length ≤ 41; omega
   ·show ys.length ≤ 41; omega
   ·show xs.length ≤ 41; omega
  have hA9 := hzU.mono (hzu1 _ (by simp))
  have hD9 := hzD.mono (hzu1 _ (by simp))
  refine hK11 _ _ ?_
  clear hK11
  refine wp_seq_k ?_; intro K12 hK12
  refine regl ?_
  refine wpl_sq hF hS (sq rfl (q_move rfl) <|
    sq rfl (q_move rfl) <|
    sq rfl (q_move rfl) <|
    sq rfl (q_move rfl) <|
    sq rfl (q_move rfl) <|
    sq_end) ?_
  clear hF hS; intro a w hF hS
  have hoc10 := (oc_cons (sl_one' hzU) (oc_cons (sl_one' hzD) (oc_cons (sl_one' hr) (oc_cons (sl_one' hzU) (oc_cons (sl_one' hzU) oc_nil)))))
  refine wpl_ef hF hS rfl (ef_bsliceA ty64 ty24 rfl rfl (oc_cons (sl_one' hzU) (oc_cons (sl_one' hzD) (oc_cons (sl_one' hr) (oc_cons (sl_one' hzU) (oc_cons (sl_one' hzU) oc_nil))))) (by decide) rfl rfl) ?_
  clear hF hS; rintro v8 _ _ a w ⟨rfl, rfl⟩ hF hS
  replace hS : St _ [_, _, _, _, _, _, _] [_, _] _ := hS
  refine wpl_sq hF hS (sq rfl (q_assign rfl) <|
    sq_end) ?_
  clear hF hS; intro a w hF hS
  refine wpList_nil ?_
  refine hK12 _ _ ?_
  clear hK12
  refine wp_seq_k ?_; intro K13 hK13
  refine wp_seq_k ?_; intro K14 hK14
  refine reg hF hS (sq rfl (q_assign rfl) <|
    sq_end) ?_
  clear hF hS; intro a w hF hS
  refine hK14 _ _ ?_
  clear hK14
  refine wp_block ?_
  obtain ⟨hs0, hhs0, hS⟩ : ∃ h, h = _ ∧ St _ _ h _ := ⟨_, rfl, hS⟩
  refine wp_loopx (γ := Int) (0) (fun (i : Int) => [(20, vi i)]) [(14, _), (18, _), (19, _)] (fun (i : Int) => hs0) (fun (i : Int) => 0 ≤ i ∧ i ≤ 5) (fun (i : Int) => (5 - i).toNat) (hF.sub ⟨rfl, rfl, rfl, rfl, trivial⟩) (by subst hhs0; exact hS) (by exact ⟨Int.le_refl _, by omega⟩) ?_
  clear hF hS; rintro i a w hfact hF hS
  subst hhs0; (try dsimp only at hfact); (try dsimp only at hF); (try dsimp only at hS)
  obtain ⟨hi0, hi1⟩ := hfact
  replace hS : St _ [_, _, _, _, _, _, _] [_, _] _ := hS
  refine wp_seq_k ?_; intro K15 hK15
  refine wp_seq_k ?_; intro K16 hK16
  refine reg hF hS (sq rfl (q_move rfl) <|
    sq rfl (q_lti rfl rfl) <|
    sq_end) ?_
  clear hF hS; intro a w hF hS
  refine hK16 _ _ ?_
  clear hK16
  refine wp_ifd hF rfl (fun hc2 => ?_) (fun hc2 => ?_)
  ·obtain ⟨nv, sv, bv, nq, is, bs, pb, po, pcs, pty, pfz, hxi, hcel, hn9, hs9, hb99, hpe, hpb, hpc⟩ := lat_at2 hsL (k := i.toNat) (by show _ < 5; omega)
   have hil : is.length ≤ 41 := hlL _ (List.mem_of_getElem? hxi)
   obtain ⟨zK, mk, hZK, hMK⟩ := pick5 hA9 hD9 hr (k := i.toNat) (by omega)
   refine wp_skip ?_
   refine hK15 _ _ ?_
   clear hK15
   refine wp_seq_k ?_; intro K17 hK17
   refine wp_block ?_
   refine wp_seq_k ?_; intro K18 hK18
   refine reg hF hS (sq rfl (q_move rfl) <|
     sq rfl (q_assign rfl) <|
     sq_end) ?_
   clear hF hS; intro a w hF hS
   refine hK18 _ _ ?_
   clear hK18
   obtain ⟨hs0, hhs0, hS⟩ : ∃ h, h = _ ∧ St _ _ h _ := ⟨_, rfl, hS⟩
   refine wp_cutz (γ := Value × List (List UInt8) × PH) (fun (gg : Value × List (List UInt8) × PH) => match gg with | (lv, K, zW) => [zW, zL, zu1, zD, zO, zU, zY, zF]) (fun (gg : Value × List (List UInt8) × PH) => match gg with | (lv, K, zW) => [(21, lv)]) [(14, _), (18, _), (19, _), (20, _)] (fun (gg : Value × List (List UInt8) × PH) => match gg with | (lv, K, zW) => hs0) (fun (gg : Value × List (List UInt8) × PH) => match gg with | (lv, K, zW) => Sl (encA 16) zW lv K) (hF.sub ⟨rfl, rfl, rfl, rfl, trivial⟩) hS ?_ ?_
   ·subst hhs0
    refine wp_seq_k ?_; intro K19 hK19
    refine reg hF hS (sq rfl (q_move rfl) <|
      sq rfl (q_eqi rfl rfl) <|
      sq_end) ?_
    clear hF hS; intro a w hF hS
    refine hK19 _ _ ?_
    clear hK19
    refine wp_ifd hF rfl (fun hc3 => ?_) (fun hc3 => ?_)
    ·refine regl ?_
     refine wpl_sq hF hS (sq rfl (q_build rfl (run_build_arr ty66 ty5 (cells := (List.replicate 16 (0 : UInt8)).map vb) rfl)) <|
       sq_end) ?_
     clear hF hS; intro a w hF hS
     refine wpl_ef hF hS rfl (ef_bsliceW ty28 ty66 rfl bQ (by decide) oQ (by decide) (by decide)) ?_
     clear hF hS; rintro v11 _ _ a w ⟨rfl, rfl⟩ hF hS
     replace hS : St _ [_, _, _, _, _, _, _] [_, _, _] _ := hS
     refine wpl_sq hF hS (sq rfl (q_move rfl) <|
       sq_end) ?_
     clear hF hS; intro a w hF hS
     refine wpl_ef hF hS rfl (ef_append ty28 ty66 0 rfl rfl rfl (src_slA ty28 hzY (.inr (by simp)) (by decide)) bQ rfl (by decide)) ?_
     clear hF hS; rintro v13 _ _ a w ⟨rfl, rfl⟩ hF hS
     replace hS : St _ [_, _, _, _, _, _, _] [_, _, _] _ := hS
     refine wpl_sq hF hS (sq rfl (q_assign rfl) <|
       sq_end) ?_
     clear hF hS; intro a w hF hS
     refine wpList_nil ?_
     obtain ⟨zV, hzV, hS⟩ := St.freezeA (m := 16) (l := (List.replicate 16 (0 : UInt8)) :: ks) (hS.rowEq (m' := ks.length + 1) (by first | omega | (simp; omega)) (by simp)) (by simp) (by omega) (fun x hx => (List.mem_cons.1 hx).elim (fun e => by rw [e]; rfl) (Hu.kyl_16 m xs.length x ∘ fun h => by rw [← hks]; exact h))
     replace hS : St _ [_, _, _, _, _, _, _, _] [_, _] _ := hS
     replace hS := hS.dupz (z := zV) (by simp)
     replace hS := hS.keep (sQ.n.k) sQ
     refine ⟨(v13, ((List.replicate 16 (0 : UInt8)) :: ks), zV), ?_, hF.sub ⟨rfl, rfl, rfl, rfl, rfl, trivial⟩, ?_⟩
     ·exact hzV
     ·exact hS
    ·refine wp_skip ?_
     replace hS := hS.dupz (z := zY) (by simp)
     refine ⟨(v3, ks, zY), ?_, hF.sub ⟨rfl, rfl, rfl, rfl, rfl, trivial⟩, ?_⟩
     ·exact hzY
     ·exact hS
   clear hF hS; rintro ⟨lv, K, zW⟩ a w hfact hF hS
   subst hhs0; (try dsimp only at hfact); (try dsimp only at hF); (try dsimp only at hS)
   have hzW := hfact
   replace hS : St _ [_, _, _, _, _, _, _, _] [_, _] _ := hS
   refine wp_seq_k ?_; intro K20 hK20
   revert hS; revert hF; apply regJ (J := J3 (α0 := Value) (α1 := Value) (α2 := PH) 129 _ _ _ _ _) #[false, false, false, false, false, false, false, false, false, false, false, false, false, false, false, false, false, false] 18 mixed rfl rfl
   ·intro w hF hS
    refine goW_take 0 _ rfl kQ rfl hF (hS.keep sQ zQ) (q_move rfl) ?_
    clear hF; intro a hF
    refine goW_take 1 _ rfl kQ rfl hF (hS.keep sQ zQ) (q_move rfl) ?_
    clear hF; intro a hF
    refine goW_take 2 _ rfl kQ rfl hF (hS.keep sQ zQ) (q_idx_sl ty35 ty26 hsL rfl rfl (by show 0 ≤ _ ∧ _ < (5 : Int); omega)) ?_
    clear hF; intro a hF
    refine goW_take 3 _ rfl kQ rfl hF (hS.keep sQ zQ) (q_ld_lat ty26 hsL (.inr (by simp)) hcel rfl rfl (by show _ < 5; omega)) ?_
    clear hF; intro a hF
    refine goW_take 5 _ rfl kQ rfl hF (hS.keep sQ zQ) (q_move rfl) ?_
    clear hF; intro a hF
    refine goW_take 6 _ rfl kQ rfl hF (hS.keep sQ zQ) (q_move rfl) ?_
    clear hF; intro a hF
    refine goW_take 7 _ rfl kQ rfl hF (hS.keep sQ zQ) (q_move rfl) ?_
    clear hF; intro a hF
    refine goW_take 8 _ rfl kQ rfl hF (hS.keep sQ (zQ.k)) (q_idx_row ty64 ty24 0 rfl rfl rfl (by omega)) ?_
    clear hF; intro a hF
    refine goW_take 9 _ rfl kQ rfl hF (hS.keep sQ (zQ.k)) (q_ld_rowV ty24 0 rfl rfl (by show _ < 5; omega) rfl) ?_
    clear hF; intro a hF
    refine gQ 4 rfl rfl hF hS rfl (ef_qt (q_call fn17 rfl (fun w hS => own_ct _ _ _ _ _ w (sl_one' hn9) (Sl.mono (hS.le (.inr (by simp))) hs9) (Sl.mono (hS.le (.inr (by simp))) hb99)) (fun _ _ _ h => h))) ?_
    clear hF hS; rintro _ _ _ a w ⟨rfl, rfl, rfl⟩ hF hS
    refine ⟨⟨.inr (hS.keep sQ (zQ.k)), .inr (hS.keep sQ (zQ.k)), .inr (hS.keep sQ zQ), .inr (hS.keep sQ zQ), .inr (hS.keep sQ zQ), iQ, iQ, .inr (hS.keep sQ zQ), .inr (hS.keep sQ zQ), trivial⟩, ?_⟩
    refine gQ 10 rfl rfl hF hS rfl (ef_call fn36 rfl (fun w hS => run_ct _ _ _ _ _ _ _ _ _ (by omega) w (sl_one' hn9) (Sl.mono (hS.le (.inr (by simp))) hs9) (Sl.mono (hS.le (.inr (by simp))) hb99) (Sl.mono (hS.le (.inr (by simp))) hzW) (Sl.mono (hS.le (hZK.imp id (fun e => by simp [e]))) hMK))) ?_
    clear hF hS; rintro _ _ _ a w ⟨_, _, rfl, rfl, ⟨aR, fR, zR, rfl, haR, hfR, rfl, rfl⟩⟩ hF hS
    refine ⟨⟨iQ, iQ, .inr (hS.keep (sQ.n) zQ), .inr (hS.keep (sQ.n) zQ), iQ, iQ, iQ, .inr (hS.keep (sQ.n) zQ), .inr (hS.keep (sQ.n) zQ), trivial⟩, ?_⟩
    refine goW_take 11 _ rfl kQ rfl hF (hS.keep sQ zQ) (q_move rfl) ?_
    clear hF; intro a hF
    refine goW_take 12 _ rfl kQ rfl hF (hS.keep sQ zQ) (q_extract rfl rfl) ?_
    clear hF; intro a hF
    refine goW_take 13 _ rfl kQ rfl hF (hS.keep sQ zQ) (q_extract rfl rfl) ?_
    clear hF; intro a hF
    refine goW_take 14 _ rfl kQ rfl hF (hS.keep sQ zQ) (q_extract rfl rfl) ?_
    clear hF; intro a hF
    refine goW_take 15 _ rfl kQ rfl hF (hS.keep sQ zQ) (q_assign rfl) ?_
    clear hF; intro a hF
    refine goW_take 16 _ rfl kQ rfl hF (hS.keep sQ zQ) (q_assign rfl) ?_
    clear hF; intro a hF
    refine goW_take 17 _ rfl kQ rfl hF (hS.keep sQ zQ) (q_assign rfl) ?_
    clear hF; intro a hF
    exact goW_done kQ (j3_mk aR fR zR ((And.intro haR (And.intro hfR trivial))) (hF.sub (L' := [(14, _), (18, _), (19, _), (20, _), (21, _), (22, _), (23, _), (24, _)]) ⟨rfl, rfl, rfl, rfl, rfl, rfl, rfl, rfl, trivial⟩) hS)
   rintro a w ⟨aR, fR, zR, ⟨haR, hfR, -⟩, hF, hS⟩
   (try dsimp only at hF); (try dsimp only at hS)
   refine hK20 _ _ ?_
   clear hK20
   refine wp_seq_k ?_; intro K21 hK21
   revert hS; revert hF; apply regJ (J := J3 (α0 := Value) (α1 := Value) (α2 := PH) 129 _ _ _ _ _) #[false, false, false, false, false, false, false, false, false, false, false, false, false, false, false, false, false] 17 mixed rfl rfl
   ·intro w hF hS
    refine goW_take 0 _ rfl kQ rfl hF (hS.keep sQ zQ) (q_move rfl) ?_
    clear hF; intro a hF
    refine goW_take 1 _ rfl kQ rfl hF (hS.keep sQ zQ) (q_move rfl) ?_
    clear hF; intro a hF
    refine goW_take 2 _ rfl kQ rfl hF (hS.keep sQ zQ) (q_idx_sl ty35 ty26 hsL rfl rfl (by show 0 ≤ _ ∧ _ < (5 : Int); omega)) ?_
    clear hF; intro a hF
    refine goW_take 3 _ rfl kQ rfl hF (hS.keep sQ zQ) (q_ld_lat ty26 hsL (.inr (by simp)) hcel rfl rfl (by show _ < 5; omega)) ?_
    clear hF; intro a hF
    refine goW_take 4 _ rfl kQ rfl hF (hS.keep sQ zQ) (q_move rfl) ?_
    clear hF; intro a hF
    refine goW_take 5 _ rfl kQ rfl hF (hS.keep sQ zQ) (q_move rfl) ?_
    clear hF; intro a hF
    refine goW_take 6 _ rfl kQ rfl hF (hS.keep sQ zQ) (q_move rfl) ?_
    clear hF; intro a hF
    refine goW_take 7 _ rfl kQ rfl hF (hS.keep sQ (zQ.k)) (q_idx_row ty64 ty24 0 rfl rfl rfl (by omega)) ?_
    clear hF; intro a hF
    refine goW_take 8 _ rfl kQ rfl hF (hS.keep sQ (zQ.k)) (q_ld_rowV ty24 0 rfl rfl (by show _ < 5; omega) rfl) ?_
    clear hF; intro a hF
    refine gQ 9 rfl rfl hF hS rfl (ef_call fn37 rfl (fun w hS => rrun_ct _ _ _ _ _ _ _ _ _ (by omega) w (sl_one' hn9) (Sl.mono (hS.le (.inr (by simp))) hs9) (Sl.mono (hS.le (.inr (by simp))) hb99) (Sl.mono (hS.le (.inr (by simp))) hzW) (Sl.mono (hS.le (hZK.imp id (fun e => by simp [e]))) hMK))) ?_
    clear hF hS; rintro _ _ _ a w ⟨_, _, rfl, rfl, ⟨aS, fS, zS, rfl, haS, hfS, rfl, rfl⟩⟩ hF hS
    refine ⟨⟨iQ, iQ, .inr (hS.keep (sQ.n) zQ), .inr (hS.keep (sQ.n) zQ), iQ, iQ, iQ, .inr (hS.keep (sQ.n) zQ), .inr (hS.keep (sQ.n) zQ), trivial⟩, ?_⟩
    refine goW_take 10 _ rfl kQ rfl hF (hS.keep sQ zQ) (q_move rfl) ?_
    clear hF; intro a hF
    refine goW_take 11 _ rfl kQ rfl hF (hS.keep sQ zQ) (q_extract rfl rfl) ?_
    clear hF; intro a hF
    refine goW_take 12 _ rfl kQ rfl hF (hS.keep sQ zQ) (q_extract rfl rfl) ?_
    clear hF; intro a hF
    refine goW_take 13 _ rfl kQ rfl hF (hS.keep sQ zQ) (q_extract rfl rfl) ?_
    clear hF; intro a hF
    refine goW_take 14 _ rfl kQ rfl hF (hS.keep sQ zQ) (q_assign rfl) ?_
    clear hF; intro a hF
    refine goW_take 15 _ rfl kQ rfl hF (hS.keep sQ zQ) (q_assign rfl) ?_
    clear hF; intro a hF
    refine goW_take 16 _ rfl kQ rfl hF (hS.keep sQ zQ) (q_assign rfl) ?_
    clear hF; intro a hF
    exact goW_done kQ (j3_mk aS fS zS ((And.intro haS (And.intro hfS trivial))) (hF.sub (L' := [(14, _), (18, _), (19, _), (20, _), (22, _), (23, _), (24, _), (25, _), (26, _), (27, _)]) ⟨rfl, rfl, rfl, rfl, rfl, rfl, rfl, rfl, rfl, rfl, trivial⟩) hS)
   rintro a w ⟨aS, fS, zS, ⟨haS, hfS, -⟩, hF, hS⟩
   (try dsimp only at hF); (try dsimp only at hS)
   refine hK21 _ _ ?_
   clear hK21
   refine wp_seq_k ?_; intro K22 hK22
   refine reg hF hS (sq rfl (q_move rfl) <|
     sq rfl (q_move rfl) <|
     sq rfl (q_nf (q_nei rfl rfl) (by simp)) <|
     sq rfl (q_move rfl) <|
     sq_go 116 rfl rfl rfl (q_move rfl) <|
     sq_go 116 rfl rfl rfl (q_move rfl) <|
     sq_go 116 rfl rfl rfl (q_call fn31 rfl (fun w hS => samei_ct _ _ _ _ w (Sl.mono (hS.le (.inr (by simp))) haR) (Sl.mono (hS.le (.inr (by simp))) haS)) (fun _ _ _ h => h)) <|
     sq_go 116 rfl rfl rfl (q_nf (q_not rfl) (by simp)) <|
     sq rfl (q_pick_f rfl rfl) <|
     sq rfl (q_move rfl) <|
     sq_go 122 rfl rfl rfl (q_move rfl) <|
     sq_go 122 rfl rfl rfl (q_move rfl) <|
     sq_go 122 rfl rfl rfl (q_call fn31 rfl (fun w hS => samei_ct _ _ _ _ w (Sl.mono (hS.le (.inr (by simp))) hfR) (Sl.mono (hS.le (.inr (by simp))) hfS)) (fun _ _ _ h => h)) <|
     sq_go 122 rfl rfl rfl (q_nf (q_not rfl) (by simp)) <|
     sq rfl (q_pick_f rfl rfl) <|
     sq_end) ?_
   clear hF hS; intro a w hF hS
   refine hK22 _ _ ?_
   clear hK22
   refine wp_if hF rfl (fun h => absurd h (by simp)) (fun _ => ?_)
   refine wp_skip ?_
   refine hK17 _ _ ?_
   clear hK17
   refine reg hF hS (sq rfl (q_move rfl) <|
     sq rfl (q_addi rfl rfl (by omega)) <|
     sq rfl (q_assign rfl) <|
     sq_end) ?_
   clear hF hS; intro a w hF hS
   replace hS := hS.keep (sQ.n.n.n) sQ
   refine ⟨(i + 1), ?_, ?_, hF.sub ⟨rfl, rfl, rfl, rfl, trivial⟩, ?_⟩
   ·(try dsimp only); omega
   ·(try dsimp only); omega
   ·exact hS
  ·refine wp_exit ?_
   refine hK13 _ _ ?_
   clear hK13
   refine wp_seq_k ?_; intro K23 hK23
   refine reg hF hS (sq rfl (q_call fn25 rfl (fun w hS => lives_ct w ) (fun _ _ _ h => h)) <|
     sq rfl (q_assign rfl) <|
     sq_end) ?_
   clear hF hS; intro a w hF hS
   refine hK23 _ _ ?_
   clear hK23
   refine wp_ret ?_
   exact fn_ret (rs := [.tmp 12]) rfl hF hS (vs := [_]) ⟨rfl, trivial⟩ zQ zQ (rfl)
end Go.Proofs.Ytefjpigmgmbghaa
