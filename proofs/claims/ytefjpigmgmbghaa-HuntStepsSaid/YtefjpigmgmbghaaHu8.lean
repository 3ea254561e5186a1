/- A text of a proof over this seat: walks over the program's functions and the plain laws that they need. -/
import Derived.Test.YtefjpigmgmbghaaHu7
import Derived.Test.YtefjpigmgmbghaaHpA
import Derived.Test.YtefjpigmgmbghaaFwD
import Derived.Test.YtefjpigmgmbghaaFwB
import Derived.Test.YtefjpigmgmbghaaFwC
set_option linter.all false
namespace Go.Proofs.Ytefjpigmgmbghaa
open Go.Fw
theorem fn16 : FnOk Try.prog 16 := ⟨_, Try.func16, rfl, by kernel_rfl⟩
theorem fn22 : FnOk Try.prog 22 := ⟨_, Try.func22, rfl, by kernel_rfl⟩
theorem fn28 : FnOk Try.prog 28 := ⟨_, Try.func28, rfl, by kernel_rfl⟩
theorem fn32 : FnOk Try.prog 32 := ⟨_, Try.func32, rfl, by kernel_rfl⟩

/-- What was asked, what is found, and the error. -/
def RunR (L F : List Int) (e : Int) (r : Value) (zs : List PH) (hs : List Res) : Prop :=
 ∃ (av fv : Value) (z : PH), r = .tuple [av, fv, vi e].toArray ∧ Sl encI z av L ∧ Sl encI z fv F ∧ zs = [z] ∧ hs = []
theorem run_of {L F L' F' : List Int} {e e' : Int} {r : Value} {zs : List PH} {hs : List Res} (h : RunR L F e r zs hs) (h1 : L' = L ∧ F' = F ∧ e' = e) : RunR L' F' e' r zs hs := by
 obtain ⟨rfl, rfl, rfl⟩ := h1; exact h

set_option maxRecDepth 4000 in
set_option maxHeartbeats 2000000 in
theorem run_ct (xN xS xB : Value) (xs : List Int) (xb : List Bool) (kV : Value) (ks : List (List UInt8)) (v2 : Value) (bad : List Bool) (hl : xs.length < 1048576) (w : World) (hxn : xN.oneCell' = true) (hxs : Sl encI (ph w) xS xs) (hxb : Sl encT (ph w) xB xb) (hk : Sl (encA 16) (ph w) kV ks) (hb : Sl encT (ph w) v2 bad) : Ct Try.prog 36 [.agg [xN, xS, xB].toArray, kV, v2] w (RunR (Hu.runA xs xb ks bad) (Hu.runF xs xb ks bad) (Hu.runE xs xb ks bad)) := by
 refine fn_enter Try.func36 rfl Try.ntmps36 (Nat.le_of_ble_eq_true rfl) fun a hF hS => ?_
 have hsl := hxs.1
 have hkl := hk.1
 have hbl := hb.1
 refine wp_seq_k ?_; intro K1 hK1
 refine regl ?_
 refine wpl_ef hF hS rfl (ef_boxA rfl) ?_
 clear hF hS; rintro _ _ _ a w ⟨b1, rfl, rfl, rfl⟩ hF hS
 refine wpl_sq hF hS (sq rfl (q_assign rfl) <|
   sq rfl (q_assign rfl) <|
   sq rfl (q_assign rfl) <|
   sq_end) ?_
 clear hF hS; intro a w hF hS
 refine wpList_nil ?_
 refine hK1 _ _ ?_
 clear hK1
 refine wp_seq_k ?_; intro K2 hK2
 refine regl ?_
 refine wpl_sq hF hS (sq rfl (q_ld_blkW ty42 0 rfl rfl bQ rfl) <|
   sq rfl (q_move rfl) <|
   sq_end) ?_
 clear hF hS; intro a w hF hS
 refine wpl_ef hF hS rfl (ef_call fn16 rfl (fun w hS => new_ct _ _ _ _ _ _ _ (by omega) w hxn (Sl.mono (hS.le zin0) hxs) (Sl.mono (hS.le zin0) hxb) (Sl.mono (hS.le zin0) hk))) ?_
 clear hF hS; rintro _ _ _ a w ⟨_, _, rfl, rfl, ⟨kN, mN, zN, rfl, hkN, hmN, rfl, rfl⟩⟩ hF hS
 replace hS : St _ [_] [_] _ := hS
 refine wpl_sq hF hS (sq rfl (q_move rfl) <|
   sq rfl (q_extract rfl rfl) <|
   sq rfl (q_extract rfl rfl) <|
   sq_end) ?_
 clear hF hS; intro a w hF hS
 refine wpl_ef hF hS rfl (ef_allocA ty38) ?_
 clear hF hS; rintro _ _ _ a w ⟨b3, rfl, rfl, rfl⟩ hF hS
 refine wpl_ef hF hS rfl (ef_storeW ty38 0 rfl rfl rfl rfl bQ (oc_cons (sl_one' hkN) (oc_cons (sl_one' hmN) oc_nil)) bQ) ?_
 clear hF hS; rintro _ _ _ a w ⟨rfl, rfl, rfl⟩ hF hS
 replace hS : St _ [_] [_, _] _ := hS
 refine wpl_sq hF hS (sq rfl (q_assign rfl) <|
   sq_end) ?_
 clear hF hS; intro a w hF hS
 refine wpList_nil ?_
 refine hK2 _ _ ?_
 clear hK2
 refine wp_seq_k ?_; intro K3 hK3
 refine wp_seq_k ?_; intro K4 hK4
 refine regl ?_
 refine wpl_sq hF hS (sq rfl (q_move rfl) <|
   sq rfl (q_nei rfl rfl) <|
   sq rfl (q_move rfl) <|
   sq_end) ?_
 clear hF hS; intro a w hF hS
 refine wpl_or 2 25 6 hF hS rfl rfl rfl rfl rfl (fun hg => have hg := (nd_false hg); sq_go 25 rfl rfl rfl (q_move rfl) <|
   sq_go 25 rfl rfl rfl (q_len_sl ty24 hb rfl) <|
   sq_go 25 rfl rfl rfl (q_fieldAddr ty42 rfl rfl (s' := 0) kQ) <|
   sq_go 25 rfl rfl rfl (q_ld_blk1 ty22 1 rfl rfl rfl rfl) <|
   sq_go 25 rfl rfl rfl (q_len_sl ty22 hxs rfl) <|
   sq_go 25 rfl rfl rfl (q_nei rfl rfl) <|
   sq_end) rfl rfl ?_
 clear hF hS; intro a w hF hS
 refine wpList_nil ?_
 refine hK4 _ _ ?_
 clear hK4
 refine wp_if hF rfl (fun hc1 => ?_) (fun hc1 => ?_)
 ·(try simp only [Bool.or_eq_true, Bool.and_eq_true, Bool.or_eq_false_iff, Bool.and_eq_false_iff, decide_eq_true_eq, decide_eq_false_iff_not, Bool.not_eq_true', Bool.not_eq_false'] at hc1)
  refine wp_seq_k ?_; intro K5 hK5
  refine reg hF hS (sq rfl (q_assign rfl) <|
    sq rfl (q_assign rfl) <|
    sq rfl (q_assign rfl) <|
    sq_end) ?_
  clear hF hS; intro a w hF hS
  refine hK5 _ _ ?_
  clear hK5
  refine wp_ret ?_
  replace hS := hS.zone00
  exact fn_ret (rs := [.tmp 6, .tmp 7, .tmp 8]) rfl hF hS (vs := [_, _, _]) ⟨rfl, rfl, rfl, trivial⟩ (zs' := [fun _ => none]) (hs' := []) (List.singleton_sublist.2 (by simp)) zQ (run_of (L := []) (F := []) (e := 1) ⟨_, _, _, rfl, sl_nil, sl_nil, rfl, rfl⟩ (Hu.run_err (Hu.run_bad hc1)))
 ·(try simp only [Bool.or_eq_true, Bool.and_eq_true, Bool.or_eq_false_iff, Bool.and_eq_false_iff, decide_eq_true_eq, decide_eq_false_iff_not, Bool.not_eq_true', Bool.not_eq_false'] at hc1)
  have hnu := Hu.newK_use (xs := xs) (xb := xb) (ks := ks) (by omega)
  obtain ⟨hno, hnk, hne⟩ := hnu
  rw [hne] at hkN hmN
  have hxl := Hu.ordB_len hno
  have hbl9 : bad.length = xs.length := by omega
  have hok9 := Hu.runOk_ok hno hnk hbl9
  refine wp_skip ?_
  refine hK3 _ _ ?_
  clear hK3
  refine wp_seq_k ?_; intro K6 hK6
  refine reg hF hS (sq rfl (q_assign rfl) <|
    sq_end) ?_
  clear hF hS; intro a w hF hS
  replace hS := hS.nilRow 3 1
  refine hK6 _ _ ?_
  clear hK6
  refine wp_block ?_
  obtain ⟨hs0, hhs0, hS⟩ : ∃ h, h = _ ∧ St _ _ h _ := ⟨_, rfl, hS⟩
  obtain ⟨zs0, hzs0, hS⟩ : ∃ h, h = _ ∧ St _ h _ _ := ⟨_, rfl, hS⟩
  replace hS := hS.dupz (z := zN) (by subst hzs0; simp)
  refine wp_loopz (γ := Value × PH × Value × Value × List Int × List Int × Nat) ((Value.slice none 0 0), zN, kN, mN, (List.replicate ks.length 0), [], 0) (fun (gg : Value × PH × Value × Value × List Int × List Int × Nat) => match gg with | (u, z, kv, mv, m, L, j) => z :: zs0) (fun (gg : Value × PH × Value × Value × List Int × List Int × Nat) => match gg with | (u, z, kv, mv, m, L, j) => [(11, u)]) [(2, _), (3, _), (9, _)] (fun (gg : Value × PH × Value × Value × List Int × List Int × Nat) => match gg with | (u, z, kv, mv, m, L, j) => ((hs0.set 1 (.blk b3 38 [kv, mv])).set 0 (.row u 3 1 L.length (L.map vi)))) (fun (gg : Value × PH × Value × Value × List Int × List Int × Nat) => match gg with | (u, z, kv, mv, m, L, j) => Sl (encA 16) z kv ks ∧ Sl encI z mv m ∧ Hu.runS xs xb ks bad j = (m, L) ∧ Hu.fitB xs xb ks m = true ∧ j + Hu.zc m ≤ xs.length ∧ L.length = j ∧ ∀ x ∈ L, x ∈ xs) (fun (gg : Value × PH × Value × Value × List Int × List Int × Nat) => match gg with | (u, z, kv, mv, m, L, j) => Hu.zc m) (hF.sub ⟨rfl, rfl, rfl, rfl, trivial⟩) (by subst hhs0; exact hS) (by exact ⟨hkN, hmN, rfl, Hu.fit_new hno hnk, by have := Hu.zc_le (List.replicate ks.length 0); rw [List.length_replicate] at this; omega, rfl, fun x hx => by cases hx⟩) ?_
  clear hF hS; rintro ⟨u, z, kv, mv, m, L, j⟩ a w hfact hF hS
  subst hhs0; subst hzs0; (try dsimp only at hfact); (try dsimp only at hF); (try dsimp only at hS)
  obtain ⟨hkz, hmz, hrj, hft9, hzc9, hLl, hAx⟩ := hfact
  replace hS : St _ [_, _] [_, _, _] _ := hS
  have hfu := Hu.fit_use hft9
  refine wp_block ?_
  refine wp_seq_k ?_; intro K7 hK7
  refine reg hF hS (sq rfl (q_ld_blkW ty42 2 rfl rfl bQ rfl) <|
    sq rfl (q_ld_blkW ty38 1 rfl rfl bQ rfl) <|
    sq rfl (q_call fn28 rfl (fun w hS => next_ct _ _ _ _ _ _ _ _ _ (by omega) w hxn (Sl.mono (hS.le zin0) hxs) (Sl.mono (hS.le zin0) hxb) (Sl.mono (hS.le (.inr (by simp))) hkz) (Sl.mono (hS.le (.inr (by simp))) hmz)) (fun _ _ _ h => h)) <|
    sq rfl (q_move rfl) <|
    sq rfl (q_extract rfl rfl) <|
    sq rfl (q_extract rfl rfl) <|
    sq rfl (q_extract rfl rfl) <|
    sq rfl (q_assign rfl) <|
    sq rfl (q_assign rfl) <|
    sq rfl (q_assign rfl) <|
    sq_end) ?_
  clear hF hS; intro a w hF hS
  refine hK7 _ _ ?_
  clear hK7
  refine wp_seq_k ?_; intro K8 hK8
  refine wp_seq_k ?_; intro K9 hK9
  refine reg hF hS (sq rfl (q_move rfl) <|
    sq rfl (q_not rfl) <|
    sq_end) ?_
  clear hF hS; intro a w hF hS
  refine hK9 _ _ ?_
  clear hK9
  refine wp_if hF rfl (fun hc2 => ?_) (fun hc2 => ?_)
  ·have hnx : Hu.nxO xs xb ks m = false := by simpa using hc2
   refine wp_seq_k ?_; intro K10 hK10
   refine regl ?_
   refine wpl_sq hF hS (sq rfl (q_ld_blkW ty42 2 rfl rfl bQ rfl) <|
     sq rfl (q_ld_blkW ty38 1 rfl rfl bQ rfl) <|
     sq_end) ?_
   clear hF hS; intro a w hF hS
   refine wpl_ef hF hS rfl (ef_call fn32 rfl (fun w hS => found_ct _ _ _ _ _ _ _ _ _ (by omega) w hxn (Sl.mono (hS.le zin0) hxs) (Sl.mono (hS.le zin0) hxb) (Sl.mono (hS.le (.inr (by simp))) hkz) (Sl.mono (hS.le (.inr (by simp))) hmz))) ?_
   clear hF hS; rintro _ _ _ a w ⟨_, _, rfl, rfl, ⟨vF, zF, hzF, rfl, rfl, rfl⟩⟩ hF hS
   replace hS : St _ [_, _, _] [_, _, _] _ := hS
   refine wpl_sq hF hS (sq rfl (q_move rfl) <|
     sq rfl (q_extract rfl rfl) <|
     sq rfl (q_extract rfl rfl) <|
     sq rfl (q_assign rfl) <|
     sq rfl (q_assign rfl) <|
     sq_end) ?_
   clear hF hS; intro a w hF hS
   refine wpList_nil ?_
   refine hK10 _ _ ?_
   clear hK10
   refine wp_seq_k ?_; intro K11 hK11
   refine reg hF hS (sq rfl (q_move rfl) <|
     sq rfl (q_move rfl) <|
     sq rfl (q_assign rfl) <|
     sq rfl (q_assign rfl) <|
     sq rfl (q_assign rfl) <|
     sq_end) ?_
   clear hF hS; intro a w hF hS
   refine hK11 _ _ ?_
   clear hK11
   refine wp_ret ?_
   obtain ⟨zm, hzm, hS⟩ := St.freezeV (h0 := fun _ => rfl) (f := vi) (p := fun x => -9223372036854775808 ≤ x ∧ x ≤ 9223372036854775807) (xs := L) hS rfl (by omega) (fun x hx => sl_rng hxs x (hAx x hx))
   replace hS : St _ [_, _, _, _] [_, _] _ := hS
   obtain ⟨zu, hzu, hS⟩ := hS.union
   exact fn_ret (rs := [.tmp 6, .tmp 7, .tmp 8]) rfl hF hS (vs := [_, _, _]) ⟨rfl, rfl, rfl, trivial⟩ (zs' := [zu]) (hs' := []) (List.singleton_sublist.2 (by simp)) zQ (run_of (e := 0) ⟨_, _, zu, rfl, Sl.mono (hzu _ (by simp)) hzm, Sl.mono (hzu _ (by simp)) hzF, rfl, rfl⟩ (Hu.run_fin hok9 hrj hnx (by omega)))
  ·have hnx : Hu.nxO xs xb ks m = true := by simpa using hc2
   obtain ⟨b, hb9, hb1, hb2, hb3, hb4, hb5⟩ := Hu.tel_use hnx (bad.getD (Gu.ixF (fun y => decide ((Hu.nxS xs xb ks m) = y)) xs).toNat false)
   have hb1x : (Gu.ixF (fun y => decide ((Hu.nxS xs xb ks m) = y)) xs) = (b : Int) := hb1
   have hzcl := Hu.zc_tel hft9 hb9 hb2 hb3 (Hu.markOf_rng (bad.getD (Gu.ixF (fun y => decide ((Hu.nxS xs xb ks m) = y)) xs).toNat false))
   have hnm : (Hu.nxS xs xb ks m) ∈ xs := by obtain ⟨_, b2, hb2a, _, _, _, hb2e, _⟩ := Hu.nx_use hnx; rw [hb2e]; exact getD_mem hb2a
   refine wp_skip ?_
   refine hK8 _ _ ?_
   clear hK8
   refine wp_seq_k ?_; intro K12 hK12
   refine regl ?_
   refine wpl_sq hF hS (sq rfl (q_move rfl) <|
     sq rfl (q_move rfl) <|
     sq_end) ?_
   clear hF hS; intro a w hF hS
   refine wpl_ef hF hS rfl (ef_bsliceA ty22 ty3 rfl rfl oQ (by decide) rfl rfl) ?_
   clear hF hS; rintro v6 _ _ a w ⟨rfl, rfl⟩ hF hS
   replace hS : St _ [_, _] [_, _, _, _] _ := hS
   refine wpl_ef hF hS rfl (ef_append ty22 ty3 1 rfl rfl rfl (src_row ty22 (k := 0) rfl oQ) bQ rfl (by decide)) ?_
   clear hF hS; rintro v8 _ _ a w ⟨rfl, rfl⟩ hF hS
   replace hS : St _ [_, _] [_, _, _, _] _ := hS
   refine wpl_sq hF hS (sq rfl (q_assign rfl) <|
     sq_end) ?_
   clear hF hS; intro a w hF hS
   refine wpList_nil ?_
   refine hK12 _ _ ?_
   clear hK12
   revert hS; revert hF; apply regJ (J := J3 (α0 := Value) (α1 := Value) (α2 := PH) 68 _ _ _ _ _) #[false, false, false, false, false, false, false, false, false, false, false, false, false, false, false] 15 mixed rfl rfl
   ·intro w hF hS
    refine goW_take 0 _ rfl kQ rfl hF (hS.keep sQ (sQ.n.n.n)) (q_ld_blkW ty42 0 rfl rfl bQ rfl) ?_
    clear hF; intro a hF
    refine goW_take 1 _ rfl kQ rfl hF (hS.keep sQ (zQ.k.n.n)) (q_ld_blkW ty38 0 rfl rfl bQ rfl) ?_
    clear hF; intro a hF
    refine goW_take 2 _ rfl kQ rfl hF (hS.keep sQ zQ) (q_move rfl) ?_
    clear hF; intro a hF
    refine goW_take 3 _ rfl kQ rfl hF (hS.keep sQ zQ) (q_move rfl) ?_
    clear hF; intro a hF
    refine goW_take 4 _ rfl kQ rfl hF (hS.keep sQ zQ) (q_fieldAddr ty42 rfl rfl (s' := 0) kQ) ?_
    clear hF; intro a hF
    refine goW_take 5 _ rfl kQ rfl hF (hS.keep sQ (sQ.n.n.n)) (q_ld_blk1 ty22 0 rfl rfl rfl rfl) ?_
    clear hF; intro a hF
    refine goW_take 6 _ rfl kQ rfl hF (hS.keep sQ zQ) (q_move rfl) ?_
    clear hF; intro a hF
    refine gQ 7 rfl rfl hF hS rfl (ef_qt (q_call fn55 rfl (fun w hS => ix_ct _ _ _ w (Sl.mono (hS.le zin0) hxs)) (fun _ _ _ h => h))) ?_
    clear hF hS; rintro _ _ _ a w ⟨rfl, rfl, rfl⟩ hF hS
    refine ⟨⟨iQ, iQ, iQ, .inr (hS.keep sQ zQ), .inr (hS.keep sQ zQ), .inr (hS.keep sQ (zQ.k.n.n)), .inr (hS.keep sQ (sQ.n.n.n)), trivial⟩, ?_⟩
    refine goW_take 8 _ rfl kQ rfl hF (hS.keep sQ zQ) (q_idx_sl ty24 ty4 hb rfl rfl (by omega)) ?_
    clear hF; intro a hF
    refine goW_take 9 _ rfl kQ rfl hF (hS.keep sQ zQ) (q_ld_T ty4 hb zin0 rfl rfl (by omega)) ?_
    clear hF; intro a hF
    refine gQ 10 rfl rfl hF hS rfl (ef_call fn22 rfl (fun w hS => tell_ct _ _ _ _ _ _ _ _ _ _ _ (by omega) w hxn (Sl.mono (hS.le zin0) hxs) (Sl.mono (hS.le zin0) hxb) (Sl.mono (hS.le (.inr (by simp))) hkz) (Sl.mono (hS.le (.inr (by simp))) hmz))) ?_
    clear hF hS; rintro _ _ _ a w ⟨_, _, rfl, rfl, ⟨kT, mT, zT, rfl, hkT, hmT, rfl, rfl⟩⟩ hF hS
    refine ⟨⟨iQ, iQ, iQ, iQ, iQ, .inr (hS.keep (sQ.n) zQ), iQ, iQ, iQ, trivial⟩, ?_⟩
    refine goW_take 11 _ rfl kQ rfl hF (hS.keep sQ zQ) (q_move rfl) ?_
    clear hF; intro a hF
    refine goW_take 12 _ rfl kQ rfl hF (hS.keep sQ zQ) (q_extract rfl rfl) ?_
    clear hF; intro a hF
    refine goW_take 13 _ rfl kQ rfl hF (hS.keep sQ zQ) (q_extract rfl rfl) ?_
    clear hF; intro a hF
    refine gQ 14 rfl rfl hF hS rfl (ef_storeW ty38 2 rfl rfl rfl rfl bQ (oc_cons (sl_one' hkT) (oc_cons (sl_one' hmT) oc_nil)) bQ) ?_
    clear hF hS; rintro _ _ _ a w ⟨rfl, rfl, rfl⟩ hF hS
    refine ⟨⟨.inr (hS.keep sQ zQ), iQ, iQ, iQ, iQ, iQ, iQ, iQ, iQ, iQ, iQ, iQ, trivial⟩, ?_⟩
    exact goW_done kQ (j3_mk kT mT zT ((And.intro hkT (And.intro hmT trivial))) (hF.sub (L' := [(2, _), (3, _), (9, _), (11, _)]) ⟨rfl, rfl, rfl, rfl, trivial⟩) hS)
   rintro a w ⟨kT, mT, zT, ⟨hkT, hmT, -⟩, hF, hS⟩
   (try dsimp only at hF); (try dsimp only at hS)
   replace hS := hS.keep (sQ.n.k) (sQ.n)
   refine ⟨(v8, zT, kT, mT, (Hu.tlm xb ks m ((b : Nat) : Int) (Hu.markOf (bad.getD (Gu.ixF (fun y => decide ((Hu.nxS xs xb ks m) = y)) xs).toNat false)) xs.length), L ++ [(Hu.nxS xs xb ks m)], j + 1), ?_, ?_, hF.sub ⟨rfl, rfl, rfl, rfl, trivial⟩, ?_⟩
   ·(try dsimp only); omega
   ·rw [hb4] at hkT hmT
    exact ⟨hkT, hmT, by rw [Hu.run_step hrj hnx]; show ((Hu.telK xs xb ks m (Hu.nxS xs xb ks m) (bad.getD (Gu.ixF (fun y => decide ((Hu.nxS xs xb ks m) = y)) xs).toNat false)).2.1, _) = _; rw [hb4], hb5, by omega, by rw [List.length_append]; simp; omega, fun x hx => (List.mem_append.1 hx).elim (hAx x) fun h => by rw [List.mem_singleton.1 h]; exact hnm⟩
   ·dsimp only; rw [List.length_append, List.map_append]; exact hS
end Go.Proofs.Ytefjpigmgmbghaa
