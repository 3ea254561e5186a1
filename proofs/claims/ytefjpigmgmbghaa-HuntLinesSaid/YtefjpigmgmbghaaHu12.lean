/- A text of a proof over this seat: walks over the program's functions and the plain laws that they need. -/
import Derived.Test.YtefjpigmgmbghaaHu11
import Derived.Test.YtefjpigmgmbghaaHpA
import Derived.Test.YtefjpigmgmbghaaFwD
import Derived.Test.YtefjpigmgmbghaaFwC
import Derived.Test.YtefjpigmgmbghaaFwB
set_option linter.all false
namespace Go.Proofs.Ytefjpigmgmbghaa
open Go.Fw
theorem fn18 : FnOk Try.prog 18 := ⟨_, Try.func18, rfl, by kernel_rfl⟩
theorem fn24 : FnOk Try.prog 24 := ⟨_, Try.func24, rfl, by kernel_rfl⟩

/-- What is known. -/
def MkR (x : Hu.KP) (r : Value) (zs : List PH) (hs : List Res) : Prop :=
 ∃ (kv mv : Value) (z : PH), r = .agg [kv, mv].toArray ∧ Sl (encA 16) z kv x.1 ∧ Sl encI z mv x.2 ∧ zs = [z] ∧ hs = []
/-- Something known. -/
def OdR (r : Value) (zs : List PH) (hs : List Res) : Prop :=
 ∃ (kv mv : Value) (K : List (List UInt8)) (M : List Int) (z : PH), r = .agg [kv, mv].toArray ∧ Sl (encA 16) z kv K ∧ Sl encI z mv M ∧ zs = [z] ∧ hs = []
theorem oddA {w0 : World} {zs : List PH} {hs : List Res} {w : World} {e : TypeId} {v : Value} {m : Nat} {cs : List Value} (h : St w0 zs (.row v e 16 m cs :: hs) w) (hc : ∃ l : List (List UInt8), cs = l.flatten.map vb ∧ m = l.length ∧ m ≤ 140737488355328 ∧ ∀ x ∈ l, x.length = 16) : ∃ K z, Sl (encA 16) z v K ∧ St w0 (z :: zs) hs w := by
 obtain ⟨l, rfl, hm, hb, hl⟩ := hc
 obtain ⟨z, hz, hS⟩ := h.freezeA (m := 16) hm hb hl
 exact ⟨l, z, hz, hS⟩
theorem oddI {w0 : World} {zs : List PH} {hs : List Res} {w : World} {e : TypeId} {v : Value} {m : Nat} {cs : List Value} (h : St w0 zs (.row v e 1 m cs :: hs) w) (hc : ∃ xs : List Int, cs = xs.map vi ∧ m = xs.length ∧ m ≤ 140737488355328 ∧ ∀ x ∈ xs, -9223372036854775808 ≤ x ∧ x ≤ 9223372036854775807) : ∃ M z, Sl encI z v M ∧ St w0 (z :: zs) hs w := by
 obtain ⟨xs, rfl, hm, hb, hr⟩ := hc
 obtain ⟨z, hz, hS⟩ := St.freezeV (f := vi) (p := fun x => -9223372036854775808 ≤ x ∧ x ≤ 9223372036854775807) h hm hb hr
 exact ⟨xs, z, hz, hS⟩
section
variable {ms : List Int} (hr : ∀ x ∈ ms, -9223372036854775808 ≤ x ∧ x ≤ 9223372036854775807) (hb : ms.length ≤ 1000)
include hr hb
theorem okI_same : ∃ xs : List Int, ms.map vi = xs.map vi ∧ ms.length = xs.length ∧ ms.length ≤ 140737488355328 ∧ ∀ x ∈ xs, -9223372036854775808 ≤ x ∧ x ≤ 9223372036854775807 := ⟨ms, rfl, rfl, by omega, hr⟩
theorem okI_set {k : Nat} {u : Int} (hu : -9223372036854775808 ≤ u ∧ u ≤ 9223372036854775807) : ∃ xs : List Int, (ms.map vi).set k (vi u) = xs.map vi ∧ ms.length = xs.length ∧ ms.length ≤ 140737488355328 ∧ ∀ x ∈ xs, -9223372036854775808 ≤ x ∧ x ≤ 9223372036854775807 :=
 ⟨ms.set k u, List.map_set.symm, by simp, by omega, fun x hx => (List.mem_or_eq_of_mem_set hx).elim (hr x) (fun e => e ▸ hu)⟩
theorem okI_app : ∃ xs : List Int, ms.map vi ++ [vi 0] = xs.map vi ∧ ms.length + 1 = xs.length ∧ ms.length + 1 ≤ 140737488355328 ∧ ∀ x ∈ xs, -9223372036854775808 ≤ x ∧ x ≤ 9223372036854775807 :=
 ⟨ms ++ [0], by simp, by simp, by omega, fun x hx => (List.mem_append.1 hx).elim (hr x) (fun e => by rw [List.mem_singleton.1 e]; omega)⟩
end
section
variable {ks : List (List UInt8)} (hr : ∀ x ∈ ks, x.length = 16) (hb : ks.length ≤ 1000)
include hr hb
theorem okA_same : ∃ l : List (List UInt8), ks.flatten.map vb = l.flatten.map vb ∧ ks.length = l.length ∧ ks.length ≤ 140737488355328 ∧ ∀ x ∈ l, x.length = 16 := ⟨ks, rfl, rfl, by omega, hr⟩
theorem okA_set {k : Nat} {d : List UInt8} (hd : d.length = 16) : ∃ l : List (List UInt8), (ks.set k d).flatten.map vb = l.flatten.map vb ∧ ks.length = l.length ∧ ks.length ≤ 140737488355328 ∧ ∀ x ∈ l, x.length = 16 :=
 ⟨ks.set k d, rfl, by simp, by omega, fun x hx => (List.mem_or_eq_of_mem_set hx).elim (hr x) (fun e => e ▸ hd)⟩
theorem okA_app {d : List UInt8} (hd : d.length = 16) : ∃ l : List (List UInt8), ks.flatten.map vb ++ d.map vb = l.flatten.map vb ∧ ks.length + 1 = l.length ∧ ks.length + 1 ≤ 140737488355328 ∧ ∀ x ∈ l, x.length = 16 :=
 ⟨ks ++ [d], by simp, by simp, by omega, fun x hx => (List.mem_append.1 hx).elim (hr x) (fun e => by rw [List.mem_singleton.1 e]; exact hd)⟩
end
theorem odd_tdiv8 {b : Int} (h : -9223372036854775808 ≤ b ∧ b ≤ 9223372036854775807) : -9223372036854775808 ≤ b.tdiv 8 ∧ b.tdiv 8 ≤ 9223372036854775807 := by
 rcases Int.lt_or_le b 0 with h1 | h1
 ·have e : b = -(-b) := by omega
  rw [e, Int.neg_tdiv, Int.tdiv_eq_ediv_of_nonneg (by omega)]
  omega
 ·rw [Int.tdiv_eq_ediv_of_nonneg h1]
  omega

set_option maxRecDepth 4000 in
set_option maxHeartbeats 2000000 in
theorem marked_ct (xN xS xB : Value) (xs : List Int) (xb : List Bool) (kV : Value) (ks : List (List UInt8)) (v2 : Value) (bad : List Bool) (v3 : Value) (l : List Int) (hl : xs.length < 1048576) (w : World) (hxn : xN.oneCell' = true) (hxs : Sl encI (ph w) xS xs) (hxb : Sl encT (ph w) xB xb) (hk : Sl (encA 16) (ph w) kV ks) (hb : Sl encT (ph w) v2 bad) (h3 : Sl encI (ph w) v3 l) : Ct Try.prog 12 [.agg [xN, xS, xB].toArray, kV, v2, v3] w (MkR (Hu.mkK xs xb ks bad l)) := by
 refine fn_enter Try.func12 rfl Try.ntmps12 (Nat.le_of_ble_eq_true rfl) fun a hF hS => ?_
 have hsl := hxs.1
 have htl := hxb.1
 have hkl := hk.1
 have hbl := hb.1
 have hll := h3.1
 refine wp_seq_k ?_; intro K1 hK1
 refine regl ?_
 refine wpl_ef hF hS rfl (ef_boxA rfl) ?_
 clear hF hS; rintro _ _ _ a w ⟨b1, rfl, rfl, rfl⟩ hF hS
 refine wpl_ef hF hS rfl (ef_allocA ty31) ?_
 clear hF hS; rintro _ _ _ a w ⟨b2, rfl, rfl, rfl⟩ hF hS
 refine wpList_nil ?_
 refine hK1 _ _ ?_
 clear hK1
 refine wp_seq_k ?_; intro K2 hK2
 refine regl ?_
 refine wpl_sq hF hS (sq rfl (q_ld_blkW ty26 1 rfl rfl bQ rfl) <|
   sq rfl (q_move rfl) <|
   sq_end) ?_
 clear hF hS; intro a w hF hS
 refine wpl_ef hF hS rfl (ef_call fn18 rfl (fun w hS => rnew_ct _ _ _ _ _ _ _ (by omega) w hxn (Sl.mono (hS.le zin0) hxs) (Sl.mono (hS.le zin0) hxb) (Sl.mono (hS.le zin0) hk))) ?_
 clear hF hS; rintro _ _ _ a w ⟨_, _, rfl, rfl, ⟨kN, mN, zN, rfl, hkN, hmN, rfl, rfl⟩⟩ hF hS
 replace hS : St _ [_] [_, _] _ := hS
 refine wpl_sq hF hS (sq rfl (q_move rfl) <|
   sq rfl (q_extract rfl rfl) <|
   sq rfl (q_extract rfl rfl) <|
   sq_end) ?_
 clear hF hS; intro a w hF hS
 refine wpl_ef hF hS rfl (ef_allocA ty31) ?_
 clear hF hS; rintro _ _ _ a w ⟨b4, rfl, rfl, rfl⟩ hF hS
 refine wpl_ef hF hS rfl (ef_storeW ty31 0 rfl rfl rfl rfl bQ (oc_cons (sl_one' hkN) (oc_cons (sl_one' hmN) oc_nil)) bQ) ?_
 clear hF hS; rintro _ _ _ a w ⟨rfl, rfl, rfl⟩ hF hS
 replace hS : St _ [_] [_, _, _] _ := hS
 refine wpl_sq hF hS (sq rfl (q_assign rfl) <|
   sq_end) ?_
 clear hF hS; intro a w hF hS
 refine wpList_nil ?_
 refine hK2 _ _ ?_
 clear hK2
 refine wp_seq_k ?_; intro K3 hK3
 refine wp_seq_k ?_; intro K4 hK4
 refine reg hF hS (sq rfl (q_assign rfl) <|
   sq_end) ?_
 clear hF hS; intro a w hF hS
 refine hK4 _ _ ?_
 clear hK4
 refine wp_block ?_
 obtain ⟨hs0, hhs0, hS⟩ : ∃ h, h = _ ∧ St _ _ h _ := ⟨_, rfl, hS⟩
 obtain ⟨zs0, hzs0, hS⟩ : ∃ h, h = _ ∧ St _ h _ _ := ⟨_, rfl, hS⟩
 replace hS := hS.dupz (z := zN) (by subst hzs0; simp)
 refine wp_loopz (γ := PH × Value × Value × List (List UInt8) × List Int × Int) (zN, kN, mN, (Hu.newK xs xb ks).1, (Hu.newK xs xb ks).2.1, 0) (fun (gg : PH × Value × Value × List (List UInt8) × List Int × Int) => match gg with | (z, kv, mv, K, M, i) => z :: zs0) (fun (gg : PH × Value × Value × List (List UInt8) × List Int × Int) => match gg with | (z, kv, mv, K, M, i) => [(11, vi i)]) [(2, _), (3, _), (4, _), (8, _), (9, _), (10, _)] (fun (gg : PH × Value × Value × List (List UInt8) × List Int × Int) => match gg with | (z, kv, mv, K, M, i) => (hs0.set 0 (.blk b4 31 [kv, mv]))) (fun (gg : PH × Value × Value × List (List UInt8) × List Int × Int) => match gg with | (z, kv, mv, K, M, i) => (Sl (encA 16) z kv K ∧ Sl encI z mv M) ∧ (Hu.mkS xs xb ks bad l i.toNat) = (K, M) ∧ (0 ≤ i ∧ i ≤ xs.length) ∧ (i ≤ bad.length ∨ i = 0) ∧ ((Hu.newK xs xb ks).2.2 = 0 ∨ i = 0)) (fun (gg : PH × Value × Value × List (List UInt8) × List Int × Int) => match gg with | (z, kv, mv, K, M, i) => (xs.length - i).toNat) (hF.sub ⟨rfl, rfl, rfl, rfl, rfl, rfl, rfl, trivial⟩) (by subst hhs0; exact hS) (by exact ⟨⟨hkN, hmN⟩, rfl, ⟨Int.le_refl _, by omega⟩, .inr rfl, .inr rfl⟩) ?_
 clear hF hS; rintro ⟨z, kv, mv, K, M, i⟩ a w hfact hF hS
 subst hhs0; subst hzs0; (try dsimp only at hfact); (try dsimp only at hF); (try dsimp only at hS)
 obtain ⟨⟨hkz, hmz⟩, hms, ⟨hi0, hi1⟩, hib, hie⟩ := hfact
 replace hS : St _ [_, _] [_, _, _] _ := hS
 refine wp_seq_k ?_; intro K5 hK5
 refine wp_seq_k ?_; intro K6 hK6
 refine regl ?_
 refine wpl_sq hF hS (sq rfl (q_move rfl) <|
   sq rfl (q_fieldAddr ty26 rfl rfl (s' := 0) kQ) <|
   sq rfl (q_ld_blk1 ty22 2 rfl rfl rfl rfl) <|
   sq rfl (q_len_sl ty22 hxs rfl) <|
   sq rfl (q_lti rfl rfl) <|
   sq rfl (q_move rfl) <|
   sq_end) ?_
 clear hF hS; intro a w hF hS
 refine wpl_and 5 25 4 hF hS rfl rfl rfl rfl rfl (fun hg => have hg := (by first | exact of_decide_eq_true hg | exact hg); sq_go 25 rfl rfl rfl (q_move rfl) <|
   sq_go 25 rfl rfl rfl (q_move rfl) <|
   sq_go 25 rfl rfl rfl (q_len_sl ty24 hb rfl) <|
   sq_go 25 rfl rfl rfl (q_lti rfl rfl) <|
   sq_end) rfl rfl ?_
 clear hF hS; intro a w hF hS
 refine wpl_sq hF hS (sq rfl (q_move rfl) <|
   sq_end) ?_
 clear hF hS; intro a w hF hS
 refine wpl_and 11 31 2 hF hS rfl rfl rfl rfl rfl (fun hg => have hg := hg; sq_go 31 rfl rfl rfl (q_move rfl) <|
   sq_go 31 rfl rfl rfl (q_eqi rfl rfl) <|
   sq_end) rfl rfl ?_
 clear hF hS; intro a w hF hS
 refine wpList_nil ?_
 refine hK6 _ _ ?_
 clear hK6
 refine wp_if hF rfl (fun hc1 => ?_) (fun hc1 => ?_)
 ·(try simp only [Bool.or_eq_true, Bool.and_eq_true, Bool.or_eq_false_iff, Bool.and_eq_false_iff, decide_eq_true_eq, decide_eq_false_iff_not, Bool.not_eq_true', Bool.not_eq_false'] at hc1)
  have hnu := Hu.newK_use (xs := xs) (xb := xb) (ks := ks) hc1.2
  have hxl := Hu.ordB_len hnu.1
  refine wp_skip ?_
  refine hK5 _ _ ?_
  clear hK5
  refine wp_seq_k ?_; intro K7 hK7
  refine wp_block ?_
  refine wp_seq_k ?_; intro K8 hK8
  refine regl ?_
  refine wpl_sq hF hS (sq rfl (q_fieldAddr ty26 rfl rfl (s' := 0) kQ) <|
    sq rfl (q_ld_blk1 ty24 2 rfl rfl rfl rfl) <|
    sq rfl (q_move rfl) <|
    sq rfl (q_idx_sl ty24 ty4 hxb rfl rfl (by omega)) <|
    sq rfl (q_ld_T ty4 hxb zin0 rfl rfl (by omega)) <|
    sq rfl (q_move rfl) <|
    sq_end) ?_
  clear hF hS; intro a w hF hS
  refine wpl_and 5 42 4 hF hS rfl rfl rfl rfl rfl (fun hg => have hg := hg; sq_go 42 rfl rfl rfl (q_move rfl) <|
    sq_go 42 rfl rfl rfl (q_move rfl) <|
    sq_go 42 rfl rfl rfl (q_call fn21 rfl (fun w hS => at_ct _ _ _ _ (by omega) w (Sl.mono (hS.le zin0) h3)) (fun _ _ _ h => h)) <|
    sq_go 42 rfl rfl rfl (q_eqi rfl rfl) <|
    sq_end) rfl rfl ?_
  clear hF hS; intro a w hF hS
  refine wpList_nil ?_
  refine hK8 _ _ ?_
  clear hK8
  refine wp_if hF rfl (fun hc2 => ?_) (fun hc2 => ?_)
  ·(try simp only [Bool.or_eq_true, Bool.and_eq_true, Bool.or_eq_false_iff, Bool.and_eq_false_iff, decide_eq_true_eq, decide_eq_false_iff_not, Bool.not_eq_true', Bool.not_eq_false'] at hc2)
   refine wp_seq_k ?_; intro K9 hK9
   revert hS; revert hF; apply regJ (J := J4 (α0 := Value) (α1 := Value) (α2 := PH) (α3 := Nat) 67 _ _ _ _ _) #[false, false, false, false, false, false, false, false, false, false, false, false, false, false, false, false, false, false] 18 mixed rfl rfl
   ·intro w hF hS
    refine goW_take 0 _ rfl kQ rfl hF (hS.keep sQ (sQ.n.n)) (q_ld_blkW ty26 0 rfl rfl bQ rfl) ?_
    clear hF; intro a hF
    refine goW_take 1 _ rfl kQ rfl hF (hS.keep sQ (zQ.k)) (q_ld_blkW ty31 0 rfl rfl bQ rfl) ?_
    clear hF; intro a hF
    refine goW_take 2 _ rfl kQ rfl hF (hS.keep sQ zQ) (q_fieldAddr ty26 rfl rfl (s' := 0) kQ) ?_
    clear hF; intro a hF
    refine goW_take 3 _ rfl kQ rfl hF (hS.keep sQ (sQ.n.n)) (q_ld_blk1 ty22 0 rfl rfl rfl rfl) ?_
    clear hF; intro a hF
    refine goW_take 4 _ rfl kQ rfl hF (hS.keep sQ zQ) (q_move rfl) ?_
    clear hF; intro a hF
    refine goW_take 5 _ rfl kQ rfl hF (hS.keep sQ zQ) (q_idx_sl ty22 ty3 hxs rfl rfl (by omega)) ?_
    clear hF; intro a hF
    refine goW_take 6 _ rfl kQ rfl hF (hS.keep sQ zQ) (q_ld_I ty3 hxs zin0 rfl rfl (by omega)) ?_
    clear hF; intro a hF
    refine goW_take 7 _ rfl kQ rfl hF (hS.keep sQ zQ) (q_move rfl) ?_
    clear hF; intro a hF
    refine goW_take 8 _ rfl kQ rfl hF (hS.keep sQ zQ) (q_move rfl) ?_
    clear hF; intro a hF
    refine goW_take 9 _ rfl kQ rfl hF (hS.keep sQ zQ) (q_idx_sl ty24 ty4 hb rfl rfl (by omega)) ?_
    clear hF; intro a hF
    refine goW_take 10 _ rfl kQ rfl hF (hS.keep sQ zQ) (q_ld_T ty4 hb zin0 rfl rfl (by omega)) ?_
    clear hF; intro a hF
    refine goW_fork [11, 15] kQ rfl ⟨?_, ?_, trivial⟩
    ·refine stepW_ef _ rfl rfl hF hS rfl (ef_call fn24 rfl (fun w hS => rtell_ct _ _ _ _ _ _ _ _ _ _ _ (by omega) w hxn (Sl.mono (hS.le zin0) hxs) (Sl.mono (hS.le zin0) hxb) (Sl.mono (hS.le (.inr (by simp))) hkz) (Sl.mono (hS.le (.inr (by simp))) hmz))) ?_
     clear hF hS; rintro _ _ _ a w ⟨_, _, rfl, rfl, ⟨kT, mT, zT, rfl, hkT, hmT, rfl, rfl⟩⟩ hF hS
     refine ⟨⟨iQ, iQ, .inr (hS.keep (sQ.n) zQ), .inr (hS.keep (sQ.n) zQ), iQ, iQ, .inr (hS.keep (sQ.n) zQ), .inr (hS.keep (sQ.n) (sQ.n.n)), .inr (hS.keep (sQ.n) zQ), iQ, iQ, trivial⟩, ?_⟩
     refine goW_take 12 _ rfl kQ rfl hF (hS.keep sQ zQ) (q_move rfl) ?_
     clear hF; intro a hF
     refine goW_take 13 _ rfl kQ rfl hF (hS.keep sQ zQ) (q_extract rfl rfl) ?_
     clear hF; intro a hF
     refine goW_take 14 _ rfl kQ rfl hF (hS.keep sQ zQ) (q_extract rfl rfl) ?_
     clear hF; intro a hF
     refine gQ 15 rfl rfl hF hS rfl (ef_allocA ty31) ?_
     clear hF hS; rintro _ _ _ a w ⟨b_6_15, rfl, rfl, rfl⟩ hF hS
     refine ⟨⟨.inr (hS.keep sQ zQ), .inr (hS.keep sQ zQ), .inr (hS.keep sQ zQ), iQ, iQ, .inr (hS.keep (sQ.n) zQ), .inr (hS.keep (sQ.n) zQ), iQ, iQ, .inr (hS.keep (sQ.n) zQ), .inr (hS.keep (sQ.n) (sQ.n.n.n)), .inr (hS.keep (sQ.n) zQ), iQ, iQ, trivial⟩, ?_⟩
     refine gQ 16 rfl rfl hF hS rfl (ef_storeW ty31 0 rfl rfl rfl rfl bQ (oc_cons (sl_one' hkT) (oc_cons (sl_one' hmT) oc_nil)) bQ) ?_
     clear hF hS; rintro _ _ _ a w ⟨rfl, rfl, rfl⟩ hF hS
     refine ⟨⟨.inr (hS.keep sQ zQ), iQ, iQ, iQ, iQ, iQ, iQ, iQ, iQ, iQ, iQ, iQ, iQ, iQ, trivial⟩, ?_⟩
     refine goW_take 17 _ rfl kQ rfl hF (hS.keep sQ zQ) (q_assign rfl) ?_
     clear hF; intro a hF
     exact goW_done kQ (j4_mk kT mT zT b_6_15 ((And.intro hkT (And.intro hmT trivial))) (hF.sub (L' := [(2, _), (3, _), (4, _), (8, _), (9, _), (10, _), (11, _), (12, _), (13, _)]) ⟨rfl, rfl, rfl, rfl, rfl, rfl, rfl, rfl, rfl, trivial⟩) hS)
    ·refine stepW_ef _ rfl rfl hF hS rfl (ef_allocA ty31) ?_
     clear hF hS; rintro _ _ _ a w ⟨b_6_15, rfl, rfl, rfl⟩ hF hS
     refine ⟨⟨.inr (hS.keep sQ zQ), .inr (hS.keep sQ zQ), .inr (hS.keep sQ zQ), .inr (hS.keep sQ zQ), .inr (hS.keep sQ zQ), .inr (hS.keep sQ zQ), .inr (hS.keep sQ zQ), .inr (hS.keep sQ (sQ.n.n.n)), .inr (hS.keep sQ zQ), .inr (hS.keep sQ (zQ.k.n)), .inr (hS.keep sQ (sQ.n.n.n)), trivial⟩, ?_⟩
     refine gQ 11 rfl rfl hF hS rfl (ef_call fn24 rfl (fun w hS => rtell_ct _ _ _ _ _ _ _ _ _ _ _ (by omega) w hxn (Sl.mono (hS.le zin0) hxs) (Sl.mono (hS.le zin0) hxb) (Sl.mono (hS.le (.inr (by simp))) hkz) (Sl.mono (hS.le (.inr (by simp))) hmz))) ?_
     clear hF hS; rintro _ _ _ a w ⟨_, _, rfl, rfl, ⟨kT, mT, zT, rfl, hkT, hmT, rfl, rfl⟩⟩ hF hS
     refine ⟨⟨iQ, iQ, .inr (hS.keep (sQ.n) zQ), .inr (hS.keep (sQ.n) zQ), iQ, iQ, .inr (hS.keep (sQ.n) zQ), .inr (hS.keep (sQ.n) (sQ.n.n.n)), .inr (hS.keep (sQ.n) zQ), iQ, iQ, trivial⟩, ?_⟩
     refine goW_take 12 _ rfl kQ rfl hF (hS.keep sQ zQ) (q_move rfl) ?_
     clear hF; intro a hF
     refine goW_take 13 _ rfl kQ rfl hF (hS.keep sQ zQ) (q_extract rfl rfl) ?_
     clear hF; intro a hF
     refine goW_take 14 _ rfl kQ rfl hF (hS.keep sQ zQ) (q_extract rfl rfl) ?_
     clear hF; intro a hF
     refine gQ 16 rfl rfl hF hS rfl (ef_storeW ty31 0 rfl rfl rfl rfl bQ (oc_cons (sl_one' hkT) (oc_cons (sl_one' hmT) oc_nil)) bQ) ?_
     clear hF hS; rintro _ _ _ a w ⟨rfl, rfl, rfl⟩ hF hS
     refine ⟨⟨.inr (hS.keep sQ zQ), iQ, iQ, iQ, iQ, iQ, iQ, iQ, iQ, iQ, iQ, iQ, iQ, iQ, trivial⟩, ?_⟩
     refine goW_take 17 _ rfl kQ rfl hF (hS.keep sQ zQ) (q_assign rfl) ?_
     clear hF; intro a hF
     exact goW_done kQ (j4_mk kT mT zT b_6_15 ((And.intro hkT (And.intro hmT trivial))) (hF.sub (L' := [(2, _), (3, _), (4, _), (8, _), (9, _), (10, _), (11, _), (12, _), (13, _)]) ⟨rfl, rfl, rfl, rfl, rfl, rfl, rfl, rfl, rfl, trivial⟩) hS)
   rintro a w ⟨kT, mT, zT, b_6_15, ⟨hkT, hmT, -⟩, hF, hS⟩
   (try dsimp only at hF); (try dsimp only at hS)
   refine hK9 _ _ ?_
   clear hK9
   refine wp_seq_k ?_; intro K10 hK10
   refine reg hF hS (sq rfl (q_move rfl) <|
     sq rfl (q_eqi rfl rfl) <|
     sq_end) ?_
   clear hF hS; intro a w hF hS
   refine hK10 _ _ ?_
   clear hK10
   refine wp_ifd hF rfl (fun hc3 => ?_) (fun hc3 => ?_)
   ·refine regl ?_
    refine wpl_sq hF hS (sq rfl (q_ld_blkW ty31 0 rfl rfl bQ rfl) <|
      sq_end) ?_
    clear hF hS; intro a w hF hS
    refine wpl_ef hF hS rfl (ef_storeW ty31 1 rfl rfl rfl rfl bQ (oc_cons (sl_one' hkT) (oc_cons (sl_one' hmT) oc_nil)) bQ) ?_
    clear hF hS; rintro _ _ _ a w ⟨rfl, rfl, rfl⟩ hF hS
    replace hS : St _ [_, _, _] [_, _, _, _] _ := hS
    refine wpList_nil ?_
    refine hK7 _ _ ?_
    clear hK7
    refine reg hF hS (sq rfl (q_move rfl) <|
      sq rfl (q_addi rfl rfl (by omega)) <|
      sq rfl (q_assign rfl) <|
      sq_end) ?_
    clear hF hS; intro a w hF hS
    replace hS := hS.keep (sQ.n.k) (sQ.n)
    refine ⟨(zT, kT, mT, (Hu.telK xs xb K M (xs.getD i.toNat 0) (bad.getD i.toNat false)).1, (Hu.telK xs xb K M (xs.getD i.toNat 0) (bad.getD i.toNat false)).2.1, i + 1), ?_, ?_, hF.sub ⟨rfl, rfl, rfl, rfl, rfl, rfl, rfl, trivial⟩, ?_⟩
    ·(try dsimp only); omega
    ·exact ⟨⟨hkT, hmT⟩, Hu.mkS_t hi0 hms hc2 hc3, ⟨by omega, by omega⟩, .inl (by omega), .inl hc1.2⟩
    ·exact hS
   ·refine wp_skip ?_
    refine hK7 _ _ ?_
    clear hK7
    refine reg hF hS (sq rfl (q_move rfl) <|
      sq rfl (q_addi rfl rfl (by omega)) <|
      sq rfl (q_assign rfl) <|
      sq_end) ?_
    clear hF hS; intro a w hF hS
    replace hS := hS.keep (sQ.n) (sQ.n)
    refine ⟨(z, kv, mv, K, M, i + 1), ?_, ?_, hF.sub ⟨rfl, rfl, rfl, rfl, rfl, rfl, rfl, trivial⟩, ?_⟩
    ·(try dsimp only); omega
    ·exact ⟨⟨hkz, hmz⟩, Hu.mkS_f hi0 hms (.inr (.inr hc3)), ⟨by omega, by omega⟩, .inl (by omega), .inl hc1.2⟩
    ·exact hS
  ·(try simp only [Bool.or_eq_true, Bool.and_eq_true, Bool.or_eq_false_iff, Bool.and_eq_false_iff, decide_eq_true_eq, decide_eq_false_iff_not, Bool.not_eq_true', Bool.not_eq_false'] at hc2)
   refine wp_skip ?_
   refine hK7 _ _ ?_
   clear hK7
   refine reg hF hS (sq rfl (q_move rfl) <|
     sq rfl (q_addi rfl rfl (by omega)) <|
     sq rfl (q_assign rfl) <|
     sq_end) ?_
   clear hF hS; intro a w hF hS
   refine ⟨(z, kv, mv, K, M, i + 1), ?_, ?_, hF.sub ⟨rfl, rfl, rfl, rfl, rfl, rfl, rfl, trivial⟩, ?_⟩
   ·(try dsimp only); omega
   ·exact ⟨⟨hkz, hmz⟩, Hu.mkS_f hi0 hms (hc2.imp id .inl), ⟨by omega, by omega⟩, .inl (by omega), .inl hc1.2⟩
   ·exact hS
 ·(try simp only [Bool.or_eq_true, Bool.and_eq_true, Bool.or_eq_false_iff, Bool.and_eq_false_iff, decide_eq_true_eq, decide_eq_false_iff_not, Bool.not_eq_true', Bool.not_eq_false'] at hc1)
  have hmn := Hu.mkN_eq (xb := xb) (ks := ks) ⟨hi0, hi1⟩ hib hie (by omega)
  have hmk : Hu.mkK xs xb ks bad l = (K, M) := by unfold Hu.mkK; rw [← hmn]; exact hms
  refine wp_exit ?_
  refine hK3 _ _ ?_
  clear hK3
  refine wp_seq_k ?_; intro K11 hK11
  refine regl ?_
  refine wpl_sq hF hS (sq rfl (q_ld_blkW ty31 0 rfl rfl bQ rfl) <|
    sq_end) ?_
  clear hF hS; intro a w hF hS
  refine wpl_ef hF hS rfl (ef_storeW ty31 1 rfl rfl rfl rfl bQ (oc_cons (sl_one' hkz) (oc_cons (sl_one' hmz) oc_nil)) bQ) ?_
  clear hF hS; rintro _ _ _ a w ⟨rfl, rfl, rfl⟩ hF hS
  replace hS : St _ [_, _] [_, _, _] _ := hS
  refine wpList_nil ?_
  refine hK11 _ _ ?_
  clear hK11
  refine wp_ret ?_
  exact fn_ret (rs := [.cell 8 31]) rfl hF hS (vs := [_]) ⟨⟨_, _, _, _, _, _, _, rfl, List.mem_of_getElem? (i := 1) rfl, ty31, .inl ⟨rfl, bQ, rfl⟩⟩, trivial⟩ (zs' := [z]) (hs' := []) (List.singleton_sublist.2 (by simp)) zQ ⟨_, _, z, rfl, by rw [hmk]; exact hkz, by rw [hmk]; exact hmz, rfl, rfl⟩

set_option maxRecDepth 4000 in
set_option maxHeartbeats 2000000 in
theorem oddk_ct (kV mV : Value) (ks : List (List UInt8)) (ms : List Int) (h b : Int) (hkl1 : ks.length ≤ 1000 ∧ ms.length ≤ 1000) (hh9 : -9223372036854775808 ≤ h ∧ h ≤ 9223372036854775807) (hb9 : -9223372036854775808 ≤ b ∧ b ≤ 9223372036854775807) (w : World) (hk : Sl (encA 16) (ph w) kV ks) (hm : Sl encI (ph w) mV ms) : Ct Try.prog 15 [.agg [kV, mV].toArray, vi h, vi b] w (OdR) := by
 refine fn_enter Try.func15 rfl Try.ntmps15 (Nat.le_of_ble_eq_true rfl) fun a hF hS => ?_
 have hml := hm.1
 have hkl := hk.1
 have hmr := sl_rng hm
 have hk16x := sl_A hk
 have hk16 : ∀ j, j < ks.length → (ks.getD j []).length = 16 := fun j hj => by have := hk.rep (i := j) (x := ks[j]) (by simp [hj]); rw [List.getD_eq_getElem?_getD, List.getElem?_eq_getElem hj]; exact this.1
 have hkr := Gu.arnd_range (n := b) (m := max (ms.length : Int) 1) (by omega)
 have hq8 := odd_tdiv8 hb9
 have hk5 := Gu.arnd_range (n := b.tdiv 8) (m := 5) (by omega)
 refine wp_seq_k ?_; intro K1 hK1
 refine regl ?_
 refine wpl_ef hF hS rfl (ef_boxA rfl) ?_
 clear hF hS; rintro _ _ _ a w ⟨b1, rfl, rfl, rfl⟩ hF hS
 refine wpl_ef hF hS rfl (ef_allocA ty31) ?_
 clear hF hS; rintro _ _ _ a w ⟨b2, rfl, rfl, rfl⟩ hF hS
 refine wpList_nil ?_
 refine hK1 _ _ ?_
 clear hK1
 refine wp_seq_k ?_; intro K2 hK2
 revert hS; revert hF; apply regJ (J := J5 (α0 := Value) (α1 := Value) (α2 := Value) (α3 := Value) (α4 := Nat) 70 _ _ _ _ _) #[false, false, false, false, false, false, false, false, false, false, false] 11 mixed rfl rfl
 ·intro w hF hS
  refine goW_take 1 _ rfl kQ rfl hF (hS.keep sQ zQ) (q_fieldAddr ty31 rfl rfl (s' := 0) kQ) ?_
  clear hF; intro a hF
  refine goW_take 2 _ rfl kQ rfl hF (hS.keep sQ (sQ.n)) (q_ld_blk1 ty28 0 rfl rfl rfl rfl) ?_
  clear hF; intro a hF
  refine goW_take 5 _ rfl kQ rfl hF (hS.keep sQ zQ) (q_fieldAddr ty31 rfl rfl (s' := 0) kQ) ?_
  clear hF; intro a hF
  refine goW_take 6 _ rfl kQ rfl hF (hS.keep sQ (sQ.n)) (q_ld_blk1 ty22 0 rfl rfl rfl rfl) ?_
  clear hF; intro a hF
  refine goW_fork [0, 4, 9] kQ rfl ⟨?_, ?_, ?_, trivial⟩
  ·refine stepW_ef _ rfl rfl hF hS rfl (ef_bslice0 ty28 ty66) ?_
   clear hF hS; rintro v_1_0 _ _ a w ⟨rfl, rfl⟩ hF hS
   refine ⟨⟨.inr (hS.k1 (sQ.n.n)), .inr hS.k0, .inr (hS.k1 (sQ.n.n)), .inr hS.k0, trivial⟩, ?_⟩
   refine goW_fork [3, 4, 9] kQ rfl ⟨?_, ?_, ?_, trivial⟩
   ·refine stepW_ef _ rfl rfl hF hS rfl (ef_append ty28 ty66 0 rfl rfl rfl (src_slA ty28 hk zin0 (by decide)) bQ rfl (by decide)) ?_
    clear hF hS; rintro v_1_3 _ _ a w ⟨rfl, rfl⟩ hF hS
    refine ⟨⟨.inr (hS.k1 (sQ.n.n)), .inr hS.k0, iQ, iQ, trivial⟩, ?_⟩
    refine goW_fork [4, 9] kQ rfl ⟨?_, ?_, trivial⟩
    ·refine stepW_ef _ rfl rfl hF hS rfl (ef_bslice0 ty22 ty3) ?_
     clear hF hS; rintro v_1_4 _ _ a w ⟨rfl, rfl⟩ hF hS
     refine ⟨⟨.inr (hS.k1 (sQ.n.n.n)), .inr hS.k0, iQ, iQ, trivial⟩, ?_⟩
     refine goW_fork [7, 9] kQ rfl ⟨?_, ?_, trivial⟩
     ·refine stepW_ef _ rfl rfl hF hS rfl (ef_append ty22 ty3 0 rfl rfl rfl (src_slV ty22 hm zin0) bQ rfl (by decide)) ?_
      clear hF hS; rintro v_1_7 _ _ a w ⟨rfl, rfl⟩ hF hS
      refine ⟨⟨iQ, iQ, iQ, iQ, trivial⟩, ?_⟩
      refine goW_take 8 _ rfl kQ rfl hF (hS.keep sQ (zQ.k.k)) (q_buildS1 ty31 2 kQ rfl rfl (oc_cons (row_one (hS.own _ (List.mem_of_getElem? (i := 1) rfl)).1) (oc_cons (row_one (hS.own _ (List.mem_of_getElem? (i := 0) rfl)).1) oc_nil)) rfl rfl) ?_
      clear hF; intro a hF
      refine gQ 9 rfl rfl hF hS rfl (ef_allocA ty31) ?_
      clear hF hS; rintro _ _ _ a w ⟨b_1_9, rfl, rfl, rfl⟩ hF hS
      refine ⟨⟨.inr (hS.k1 (zQ.k.k.n)), iQ, iQ, iQ, iQ, trivial⟩, ?_⟩
      refine gQ 10 rfl rfl hF hS rfl (ef_storeW ty31 0 rfl rfl rfl rfl bQ (oc_cons (row_one (hS.own _ (List.mem_of_getElem? (i := 2) rfl)).1) (oc_cons (row_one (hS.own _ (List.mem_of_getElem? (i := 1) rfl)).1) oc_nil)) bQ) ?_
      clear hF hS; rintro _ _ _ a w ⟨rfl, rfl, rfl⟩ hF hS
      refine ⟨⟨iQ, iQ, iQ, iQ, iQ, trivial⟩, ?_⟩
      exact goW_done kQ (j5_mk v_1_0 v_1_3 v_1_4 v_1_7 b_1_9 (trivial) (hF.sub (L' := [(1, _), (2, _), (6, _), (7, _)]) ⟨rfl, rfl, rfl, rfl, trivial⟩) hS)
     ·refine stepW_ef _ rfl rfl hF hS rfl (ef_allocA ty31) ?_
      clear hF hS; rintro _ _ _ a w ⟨b_1_9, rfl, rfl, rfl⟩ hF hS
      refine ⟨⟨.inr (hS.k1 (sQ.n.n.n.n)), .inr hS.k0, iQ, iQ, trivial⟩, ?_⟩
      refine gQ 7 rfl rfl hF hS rfl (ef_append ty22 ty3 1 rfl rfl rfl (src_slV ty22 hm zin0) bQ rfl (by decide)) ?_
      clear hF hS; rintro v_1_7 _ _ a w ⟨rfl, rfl⟩ hF hS
      refine ⟨⟨iQ, iQ, iQ, iQ, trivial⟩, ?_⟩
      refine goW_take 8 _ rfl kQ rfl hF (hS.keep sQ (zQ.k.k.n)) (q_buildS1 ty31 2 kQ rfl rfl (oc_cons (row_one (hS.own _ (List.mem_of_getElem? (i := 2) rfl)).1) (oc_cons (row_one (hS.own _ (List.mem_of_getElem? (i := 1) rfl)).1) oc_nil)) rfl rfl) ?_
      clear hF; intro a hF
      refine gQ 10 rfl rfl hF hS rfl (ef_storeW ty31 0 rfl rfl rfl rfl bQ (oc_cons (row_one (hS.own _ (List.mem_of_getElem? (i := 2) rfl)).1) (oc_cons (row_one (hS.own _ (List.mem_of_getElem? (i := 1) rfl)).1) oc_nil)) bQ) ?_
      clear hF hS; rintro _ _ _ a w ⟨rfl, rfl, rfl⟩ hF hS
      refine ⟨⟨iQ, iQ, iQ, iQ, iQ, trivial⟩, ?_⟩
      exact goW_done kQ (j5_mk v_1_0 v_1_3 v_1_4 v_1_7 b_1_9 (trivial) (hF.sub (L' := [(1, _), (2, _), (6, _), (7, _)]) ⟨rfl, rfl, rfl, rfl, trivial⟩) hS)
    ·refine stepW_ef _ rfl rfl hF hS rfl (ef_allocA ty31) ?_
     clear hF hS; rintro _ _ _ a w ⟨b_1_9, rfl, rfl, rfl⟩ hF hS
     refine ⟨⟨.inr (hS.k1 (sQ.n.n.n)), .inr hS.k0, iQ, iQ, trivial⟩, ?_⟩
     refine gQ 4 rfl rfl hF hS rfl (ef_bslice0 ty22 ty3) ?_
     clear hF hS; rintro v_1_4 _ _ a w ⟨rfl, rfl⟩ hF hS
     refine ⟨⟨.inr (hS.k1 (sQ.n.n.n.n)), .inr hS.k0, iQ, iQ, trivial⟩, ?_⟩
     refine gQ 7 rfl rfl hF hS rfl (ef_append ty22 ty3 0 rfl rfl rfl (src_slV ty22 hm zin0) bQ rfl (by decide)) ?_
     clear hF hS; rintro v_1_7 _ _ a w ⟨rfl, rfl⟩ hF hS
     refine ⟨⟨iQ, iQ, iQ, iQ, trivial⟩, ?_⟩
     refine goW_take 8 _ rfl kQ rfl hF (hS.keep sQ (zQ.k.n.k)) (q_buildS1 ty31 2 kQ rfl rfl (oc_cons (row_one (hS.own _ (List.mem_of_getElem? (i := 2) rfl)).1) (oc_cons (row_one (hS.own _ (List.mem_of_getElem? (i := 0) rfl)).1) oc_nil)) rfl rfl) ?_
     clear hF; intro a hF
     refine gQ 10 rfl rfl hF hS rfl (ef_storeW ty31 1 rfl rfl rfl rfl bQ (oc_cons (row_one (hS.own _ (List.mem_of_getElem? (i := 2) rfl)).1) (oc_cons (row_one (hS.own _ (List.mem_of_getElem? (i := 0) rfl)).1) oc_nil)) bQ) ?_
     clear hF hS; rintro _ _ _ a w ⟨rfl, rfl, rfl⟩ hF hS
     refine ⟨⟨iQ, iQ, iQ, iQ, iQ, trivial⟩, ?_⟩
     exact goW_done kQ (j5_mk v_1_0 v_1_3 v_1_4 v_1_7 b_1_9 (trivial) (hF.sub (L' := [(1, _), (2, _), (6, _), (7, _)]) ⟨rfl, rfl, rfl, rfl, trivial⟩) (hS.perm (.swap _ _ _)))
   ·refine stepW_ef _ rfl rfl hF hS rfl (ef_bslice0 ty22 ty3) ?_
    clear hF hS; rintro v_1_4 _ _ a w ⟨rfl, rfl⟩ hF hS
    refine ⟨⟨.inr (hS.k1 (sQ.n.n.n)), .inr hS.k0, .inr (hS.k1 (sQ.n.n.n)), .inr hS.k0, trivial⟩, ?_⟩
    refine goW_fork [3, 9] kQ rfl ⟨?_, ?_, trivial⟩
    ·refine stepW_ef _ rfl rfl hF hS rfl (ef_append ty28 ty66 1 rfl rfl rfl (src_slA ty28 hk zin0 (by decide)) bQ rfl (by decide)) ?_
     clear hF hS; rintro v_1_3 _ _ a w ⟨rfl, rfl⟩ hF hS
     refine ⟨⟨.inr (hS.k1 (sQ.n.n.n)), .inr hS.k0, iQ, iQ, trivial⟩, ?_⟩
     refine goW_fork [7, 9] kQ rfl ⟨?_, ?_, trivial⟩
     ·refine stepW_ef _ rfl rfl hF hS rfl (ef_append ty22 ty3 0 rfl rfl rfl (src_slV ty22 hm zin0) bQ rfl (by decide)) ?_
      clear hF hS; rintro v_1_7 _ _ a w ⟨rfl, rfl⟩ hF hS
      refine ⟨⟨iQ, iQ, iQ, iQ, trivial⟩, ?_⟩
      refine goW_take 8 _ rfl kQ rfl hF (hS.keep sQ (zQ.k.k)) (q_buildS1 ty31 2 kQ rfl rfl (oc_cons (row_one (hS.own _ (List.mem_of_getElem? (i := 1) rfl)).1) (oc_cons (row_one (hS.own _ (List.mem_of_getElem? (i := 0) rfl)).1) oc_nil)) rfl rfl) ?_
      clear hF; intro a hF
      refine gQ 9 rfl rfl hF hS rfl (ef_allocA ty31) ?_
      clear hF hS; rintro _ _ _ a w ⟨b_1_9, rfl, rfl, rfl⟩ hF hS
      refine ⟨⟨.inr (hS.k1 (zQ.k.k.n)), iQ, iQ, iQ, iQ, trivial⟩, ?_⟩
      refine gQ 10 rfl rfl hF hS rfl (ef_storeW ty31 0 rfl rfl rfl rfl bQ (oc_cons (row_one (hS.own _ (List.mem_of_getElem? (i := 2) rfl)).1) (oc_cons (row_one (hS.own _ (List.mem_of_getElem? (i := 1) rfl)).1) oc_nil)) bQ) ?_
      clear hF hS; rintro _ _ _ a w ⟨rfl, rfl, rfl⟩ hF hS
      refine ⟨⟨iQ, iQ, iQ, iQ, iQ, trivial⟩, ?_⟩
      exact goW_done kQ (j5_mk v_1_0 v_1_3 v_1_4 v_1_7 b_1_9 (trivial) (hF.sub (L' := [(1, _), (2, _), (6, _), (7, _)]) ⟨rfl, rfl, rfl, rfl, trivial⟩) hS)
     ·refine stepW_ef _ rfl rfl hF hS rfl (ef_allocA ty31) ?_
      clear hF hS; rintro _ _ _ a w ⟨b_1_9, rfl, rfl, rfl⟩ hF hS
      refine ⟨⟨.inr (hS.k1 (sQ.n.n.n.n)), .inr hS.k0, iQ, iQ, trivial⟩, ?_⟩
      refine gQ 7 rfl rfl hF hS rfl (ef_append ty22 ty3 1 rfl rfl rfl (src_slV ty22 hm zin0) bQ rfl (by decide)) ?_
      clear hF hS; rintro v_1_7 _ _ a w ⟨rfl, rfl⟩ hF hS
      refine ⟨⟨iQ, iQ, iQ, iQ, trivial⟩, ?_⟩
      refine goW_take 8 _ rfl kQ rfl hF (hS.keep sQ (zQ.k.k.n)) (q_buildS1 ty31 2 kQ rfl rfl (oc_cons (row_one (hS.own _ (List.mem_of_getElem? (i := 2) rfl)).1) (oc_cons (row_one (hS.own _ (List.mem_of_getElem? (i := 1) rfl)).1) oc_nil)) rfl rfl) ?_
      clear hF; intro a hF
      refine gQ 10 rfl rfl hF hS rfl (ef_storeW ty31 0 rfl rfl rfl rfl bQ (oc_cons (row_one (hS.own _ (List.mem_of_getElem? (i := 2) rfl)).1) (oc_cons (row_one (hS.own _ (List.mem_of_getElem? (i := 1) rfl)).1) oc_nil)) bQ) ?_
      clear hF hS; rintro _ _ _ a w ⟨rfl, rfl, rfl⟩ hF hS
      refine ⟨⟨iQ, iQ, iQ, iQ, iQ, trivial⟩, ?_⟩
      exact goW_done kQ (j5_mk v_1_0 v_1_3 v_1_4 v_1_7 b_1_9 (trivial) (hF.sub (L' := [(1, _), (2, _), (6, _), (7, _)]) ⟨rfl, rfl, rfl, rfl, trivial⟩) hS)
    ·refine stepW_ef _ rfl rfl hF hS rfl (ef_allocA ty31) ?_
     clear hF hS; rintro _ _ _ a w ⟨b_1_9, rfl, rfl, rfl⟩ hF hS
     refine ⟨⟨.inr (hS.k1 (sQ.n.n.n.n)), .inr hS.k0, .inr (hS.k1 (sQ.n.n.n.n)), .inr hS.k0, trivial⟩, ?_⟩
     refine gQ 3 rfl rfl hF hS rfl (ef_append ty28 ty66 2 rfl rfl rfl (src_slA ty28 hk zin0 (by decide)) bQ rfl (by decide)) ?_
     clear hF hS; rintro v_1_3 _ _ a w ⟨rfl, rfl⟩ hF hS
     refine ⟨⟨.inr (hS.k1 (sQ.n.n.n.n)), .inr hS.k0, iQ, iQ, trivial⟩, ?_⟩
     refine gQ 7 rfl rfl hF hS rfl (ef_append ty22 ty3 1 rfl rfl rfl (src_slV ty22 hm zin0) bQ rfl (by decide)) ?_
     clear hF hS; rintro v_1_7 _ _ a w ⟨rfl, rfl⟩ hF hS
     refine ⟨⟨iQ, iQ, iQ, iQ, trivial⟩, ?_⟩
     refine goW_take 8 _ rfl kQ rfl hF (hS.keep sQ (zQ.k.k.n)) (q_buildS1 ty31 2 kQ rfl rfl (oc_cons (row_one (hS.own _ (List.mem_of_getElem? (i := 2) rfl)).1) (oc_cons (row_one (hS.own _ (List.mem_of_getElem? (i := 1) rfl)).1) oc_nil)) rfl rfl) ?_
     clear hF; intro a hF
     refine gQ 10 rfl rfl hF hS rfl (ef_storeW ty31 0 rfl rfl rfl rfl bQ (oc_cons (row_one (hS.own _ (List.mem_of_getElem? (i := 2) rfl)).1) (oc_cons (row_one (hS.own _ (List.mem_of_getElem? (i := 1) rfl)).1) oc_nil)) bQ) ?_
     clear hF hS; rintro _ _ _ a w ⟨rfl, rfl, rfl⟩ hF hS
     refine ⟨⟨iQ, iQ, iQ, iQ, iQ, trivial⟩, ?_⟩
     exact goW_done kQ (j5_mk v_1_0 v_1_3 v_1_4 v_1_7 b_1_9 (trivial) (hF.sub (L' := [(1, _), (2, _), (6, _), (7, _)]) ⟨rfl, rfl, rfl, rfl, trivial⟩) hS)
   ·refine stepW_ef _ rfl rfl hF hS rfl (ef_allocA ty31) ?_
    clear hF hS; rintro _ _ _ a w ⟨b_1_9, rfl, rfl, rfl⟩ hF hS
    refine ⟨⟨.inr (hS.k1 (sQ.n.n.n)), .inr hS.k0, .inr (hS.k1 (sQ.n.n.n)), .inr hS.k0, trivial⟩, ?_⟩
    refine goW_fork [3, 4] kQ rfl ⟨?_, ?_, trivial⟩
    ·refine stepW_ef _ rfl rfl hF hS rfl (ef_append ty28 ty66 1 rfl rfl rfl (src_slA ty28 hk zin0 (by decide)) bQ rfl (by decide)) ?_
     clear hF hS; rintro v_1_3 _ _ a w ⟨rfl, rfl⟩ hF hS
     refine ⟨⟨.inr (hS.k1 (sQ.n.n.n)), .inr hS.k0, iQ, iQ, trivial⟩, ?_⟩
     refine gQ 4 rfl rfl hF hS rfl (ef_bslice0 ty22 ty3) ?_
     clear hF hS; rintro v_1_4 _ _ a w ⟨rfl, rfl⟩ hF hS
     refine ⟨⟨.inr (hS.k1 (sQ.n.n.n.n)), .inr hS.k0, iQ, iQ, trivial⟩, ?_⟩
     refine gQ 7 rfl rfl hF hS rfl (ef_append ty22 ty3 0 rfl rfl rfl (src_slV ty22 hm zin0) bQ rfl (by decide)) ?_
     clear hF hS; rintro v_1_7 _ _ a w ⟨rfl, rfl⟩ hF hS
     refine ⟨⟨iQ, iQ, iQ, iQ, trivial⟩, ?_⟩
     refine goW_take 8 _ rfl kQ rfl hF (hS.keep sQ (zQ.k.n.k)) (q_buildS1 ty31 2 kQ rfl rfl (oc_cons (row_one (hS.own _ (List.mem_of_getElem? (i := 2) rfl)).1) (oc_cons (row_one (hS.own _ (List.mem_of_getElem? (i := 0) rfl)).1) oc_nil)) rfl rfl) ?_
     clear hF; intro a hF
     refine gQ 10 rfl rfl hF hS rfl (ef_storeW ty31 1 rfl rfl rfl rfl bQ (oc_cons (row_one (hS.own _ (List.mem_of_getElem? (i := 2) rfl)).1) (oc_cons (row_one (hS.own _ (List.mem_of_getElem? (i := 0) rfl)).1) oc_nil)) bQ) ?_
     clear hF hS; rintro _ _ _ a w ⟨rfl, rfl, rfl⟩ hF hS
     refine ⟨⟨iQ, iQ, iQ, iQ, iQ, trivial⟩, ?_⟩
     exact goW_done kQ (j5_mk v_1_0 v_1_3 v_1_4 v_1_7 b_1_9 (trivial) (hF.sub (L' := [(1, _), (2, _), (6, _), (7, _)]) ⟨rfl, rfl, rfl, rfl, trivial⟩) (hS.perm (.swap _ _ _)))
    ·refine stepW_ef _ rfl rfl hF hS rfl (ef_bslice0 ty22 ty3) ?_
     clear hF hS; rintro v_1_4 _ _ a w ⟨rfl, rfl⟩ hF hS
     refine ⟨⟨.inr (hS.k1 (sQ.n.n.n.n)), .inr hS.k0, .inr (hS.k1 (sQ.n.n.n.n)), .inr hS.k0, trivial⟩, ?_⟩
     refine gQ 3 rfl rfl hF hS rfl (ef_append ty28 ty66 2 rfl rfl rfl (src_slA ty28 hk zin0 (by decide)) bQ rfl (by decide)) ?_
     clear hF hS; rintro v_1_3 _ _ a w ⟨rfl, rfl⟩ hF hS
     refine ⟨⟨.inr (hS.k1 (sQ.n.n.n.n)), .inr hS.k0, iQ, iQ, trivial⟩, ?_⟩
     refine gQ 7 rfl rfl hF hS rfl (ef_append ty22 ty3 0 rfl rfl rfl (src_slV ty22 hm zin0) bQ rfl (by decide)) ?_
     clear hF hS; rintro v_1_7 _ _ a w ⟨rfl, rfl⟩ hF hS
     refine ⟨⟨iQ, iQ, iQ, iQ, trivial⟩, ?_⟩
     refine goW_take 8 _ rfl kQ rfl hF (hS.keep sQ (zQ.k.n.k)) (q_buildS1 ty31 2 kQ rfl rfl (oc_cons (row_one (hS.own _ (List.mem_of_getElem? (i := 2) rfl)).1) (oc_cons (row_one (hS.own _ (List.mem_of_getElem? (i := 0) rfl)).1) oc_nil)) rfl rfl) ?_
     clear hF; intro a hF
     refine gQ 10 rfl rfl hF hS rfl (ef_storeW ty31 1 rfl rfl rfl rfl bQ (oc_cons (row_one (hS.own _ (List.mem_of_getElem? (i := 2) rfl)).1) (oc_cons (row_one (hS.own _ (List.mem_of_getElem? (i := 0) rfl)).1) oc_nil)) bQ) ?_
     clear hF hS; rintro _ _ _ a w ⟨rfl, rfl, rfl⟩ hF hS
     refine ⟨⟨iQ, iQ, iQ, iQ, iQ, trivial⟩, ?_⟩
     exact goW_done kQ (j5_mk v_1_0 v_1_3 v_1_4 v_1_7 b_1_9 (trivial) (hF.sub (L' := [(1, _), (2, _), (6, _), (7, _)]) ⟨rfl, rfl, rfl, rfl, trivial⟩) (hS.perm (.swap _ _ _)))
  ·refine stepW_ef _ rfl rfl hF hS rfl (ef_bslice0 ty22 ty3) ?_
   clear hF hS; rintro v_1_4 _ _ a w ⟨rfl, rfl⟩ hF hS
   refine ⟨⟨.inr (hS.k1 (sQ.n.n)), .inr hS.k0, .inr (hS.k1 (sQ.n.n)), .inr hS.k0, trivial⟩, ?_⟩
   refine goW_fork [0, 9] kQ rfl ⟨?_, ?_, trivial⟩
   ·refine stepW_ef _ rfl rfl hF hS rfl (ef_bslice0 ty28 ty66) ?_
    clear hF hS; rintro v_1_0 _ _ a w ⟨rfl, rfl⟩ hF hS
    refine ⟨⟨.inr (hS.k1 (sQ.n.n.n)), .inr hS.k0, .inr (hS.k1 (sQ.n.n.n)), .inr hS.k0, trivial⟩, ?_⟩
    refine goW_fork [3, 9] kQ rfl ⟨?_, ?_, trivial⟩
    ·refine stepW_ef _ rfl rfl hF hS rfl (ef_append ty28 ty66 0 rfl rfl rfl (src_slA ty28 hk zin0 (by decide)) bQ rfl (by decide)) ?_
     clear hF hS; rintro v_1_3 _ _ a w ⟨rfl, rfl⟩ hF hS
     refine ⟨⟨.inr (hS.k1 (sQ.n.n.n)), .inr hS.k0, iQ, iQ, trivial⟩, ?_⟩
     refine goW_fork [7, 9] kQ rfl ⟨?_, ?_, trivial⟩
     ·refine stepW_ef _ rfl rfl hF hS rfl (ef_append ty22 ty3 1 rfl rfl rfl (src_slV ty22 hm zin0) bQ rfl (by decide)) ?_
      clear hF hS; rintro v_1_7 _ _ a w ⟨rfl, rfl⟩ hF hS
      refine ⟨⟨iQ, iQ, iQ, iQ, trivial⟩, ?_⟩
      refine goW_take 8 _ rfl kQ rfl hF (hS.keep sQ (zQ.k.k)) (q_buildS1 ty31 2 kQ rfl rfl (oc_cons (row_one (hS.own _ (List.mem_of_getElem? (i := 0) rfl)).1) (oc_cons (row_one (hS.own _ (List.mem_of_getElem? (i := 1) rfl)).1) oc_nil)) rfl rfl) ?_
      clear hF; intro a hF
      refine gQ 9 rfl rfl hF hS rfl (ef_allocA ty31) ?_
      clear hF hS; rintro _ _ _ a w ⟨b_1_9, rfl, rfl, rfl⟩ hF hS
      refine ⟨⟨.inr (hS.k1 (zQ.k.k.n)), iQ, iQ, iQ, iQ, trivial⟩, ?_⟩
      refine gQ 10 rfl rfl hF hS rfl (ef_storeW ty31 0 rfl rfl rfl rfl bQ (oc_cons (row_one (hS.own _ (List.mem_of_getElem? (i := 1) rfl)).1) (oc_cons (row_one (hS.own _ (List.mem_of_getElem? (i := 2) rfl)).1) oc_nil)) bQ) ?_
      clear hF hS; rintro _ _ _ a w ⟨rfl, rfl, rfl⟩ hF hS
      refine ⟨⟨iQ, iQ, iQ, iQ, iQ, trivial⟩, ?_⟩
      exact goW_done kQ (j5_mk v_1_0 v_1_3 v_1_4 v_1_7 b_1_9 (trivial) (hF.sub (L' := [(1, _), (2, _), (6, _), (7, _)]) ⟨rfl, rfl, rfl, rfl, trivial⟩) (hS.perm (.cons _ (.swap _ _ _))))
     ·refine stepW_ef _ rfl rfl hF hS rfl (ef_allocA ty31) ?_
      clear hF hS; rintro _ _ _ a w ⟨b_1_9, rfl, rfl, rfl⟩ hF hS
      refine ⟨⟨.inr (hS.k1 (sQ.n.n.n.n)), .inr hS.k0, iQ, iQ, trivial⟩, ?_⟩
      refine gQ 7 rfl rfl hF hS rfl (ef_append ty22 ty3 2 rfl rfl rfl (src_slV ty22 hm zin0) bQ rfl (by decide)) ?_
      clear hF hS; rintro v_1_7 _ _ a w ⟨rfl, rfl⟩ hF hS
      refine ⟨⟨iQ, iQ, iQ, iQ, trivial⟩, ?_⟩
      refine goW_take 8 _ rfl kQ rfl hF (hS.keep sQ (zQ.k.k.n)) (q_buildS1 ty31 2 kQ rfl rfl (oc_cons (row_one (hS.own _ (List.mem_of_getElem? (i := 1) rfl)).1) (oc_cons (row_one (hS.own _ (List.mem_of_getElem? (i := 2) rfl)).1) oc_nil)) rfl rfl) ?_
      clear hF; intro a hF
      refine gQ 10 rfl rfl hF hS rfl (ef_storeW ty31 0 rfl rfl rfl rfl bQ (oc_cons (row_one (hS.own _ (List.mem_of_getElem? (i := 1) rfl)).1) (oc_cons (row_one (hS.own _ (List.mem_of_getElem? (i := 2) rfl)).1) oc_nil)) bQ) ?_
      clear hF hS; rintro _ _ _ a w ⟨rfl, rfl, rfl⟩ hF hS
      refine ⟨⟨iQ, iQ, iQ, iQ, iQ, trivial⟩, ?_⟩
      exact goW_done kQ (j5_mk v_1_0 v_1_3 v_1_4 v_1_7 b_1_9 (trivial) (hF.sub (L' := [(1, _), (2, _), (6, _), (7, _)]) ⟨rfl, rfl, rfl, rfl, trivial⟩) (hS.perm (.cons _ (.swap _ _ _))))
    ·refine stepW_ef _ rfl rfl hF hS rfl (ef_allocA ty31) ?_
     clear hF hS; rintro _ _ _ a w ⟨b_1_9, rfl, rfl, rfl⟩ hF hS
     refine ⟨⟨.inr (hS.k1 (sQ.n.n.n.n)), .inr hS.k0, .inr (hS.k1 (sQ.n.n.n.n)), .inr hS.k0, trivial⟩, ?_⟩
     refine gQ 3 rfl rfl hF hS rfl (ef_append ty28 ty66 1 rfl rfl rfl (src_slA ty28 hk zin0 (by decide)) bQ rfl (by decide)) ?_
     clear hF hS; rintro v_1_3 _ _ a w ⟨rfl, rfl⟩ hF hS
     refine ⟨⟨.inr (hS.k1 (sQ.n.n.n.n)), .inr hS.k0, iQ, iQ, trivial⟩, ?_⟩
     refine gQ 7 rfl rfl hF hS rfl (ef_append ty22 ty3 2 rfl rfl rfl (src_slV ty22 hm zin0) bQ rfl (by decide)) ?_
     clear hF hS; rintro v_1_7 _ _ a w ⟨rfl, rfl⟩ hF hS
     refine ⟨⟨iQ, iQ, iQ, iQ, trivial⟩, ?_⟩
     refine goW_take 8 _ rfl kQ rfl hF (hS.keep sQ (zQ.k.k.n)) (q_buildS1 ty31 2 kQ rfl rfl (oc_cons (row_one (hS.own _ (List.mem_of_getElem? (i := 1) rfl)).1) (oc_cons (row_one (hS.own _ (List.mem_of_getElem? (i := 2) rfl)).1) oc_nil)) rfl rfl) ?_
     clear hF; intro a hF
     refine gQ 10 rfl rfl hF hS rfl (ef_storeW ty31 0 rfl rfl rfl rfl bQ (oc_cons (row_one (hS.own _ (List.mem_of_getElem? (i := 1) rfl)).1) (oc_cons (row_one (hS.own _ (List.mem_of_getElem? (i := 2) rfl)).1) oc_nil)) bQ) ?_
     clear hF hS; rintro _ _ _ a w ⟨rfl, rfl, rfl⟩ hF hS
     refine ⟨⟨iQ, iQ, iQ, iQ, iQ, trivial⟩, ?_⟩
     exact goW_done kQ (j5_mk v_1_0 v_1_3 v_1_4 v_1_7 b_1_9 (trivial) (hF.sub (L' := [(1, _), (2, _), (6, _), (7, _)]) ⟨rfl, rfl, rfl, rfl, trivial⟩) (hS.perm (.cons _ (.swap _ _ _))))
   ·refine stepW_ef _ rfl rfl hF hS rfl (ef_allocA ty31) ?_
    clear hF hS; rintro _ _ _ a w ⟨b_1_9, rfl, rfl, rfl⟩ hF hS
    refine ⟨⟨.inr (hS.k1 (sQ.n.n.n)), .inr hS.k0, .inr (hS.k1 (sQ.n.n.n)), .inr hS.k0, trivial⟩, ?_⟩
    refine gQ 0 rfl rfl hF hS rfl (ef_bslice0 ty28 ty66) ?_
    clear hF hS; rintro v_1_0 _ _ a w ⟨rfl, rfl⟩ hF hS
    refine ⟨⟨.inr (hS.k1 (sQ.n.n.n.n)), .inr hS.k0, .inr (hS.k1 (sQ.n.n.n.n)), .inr hS.k0, trivial⟩, ?_⟩
    refine gQ 3 rfl rfl hF hS rfl (ef_append ty28 ty66 0 rfl rfl rfl (src_slA ty28 hk zin0 (by decide)) bQ rfl (by decide)) ?_
    clear hF hS; rintro v_1_3 _ _ a w ⟨rfl, rfl⟩ hF hS
    refine ⟨⟨.inr (hS.k1 (sQ.n.n.n.n)), .inr hS.k0, iQ, iQ, trivial⟩, ?_⟩
    refine gQ 7 rfl rfl hF hS rfl (ef_append ty22 ty3 2 rfl rfl rfl (src_slV ty22 hm zin0) bQ rfl (by decide)) ?_
    clear hF hS; rintro v_1_7 _ _ a w ⟨rfl, rfl⟩ hF hS
    refine ⟨⟨iQ, iQ, iQ, iQ, trivial⟩, ?_⟩
    refine goW_take 8 _ rfl kQ rfl hF (hS.keep sQ (zQ.k.n.k)) (q_buildS1 ty31 2 kQ rfl rfl (oc_cons (row_one (hS.own _ (List.mem_of_getElem? (i := 0) rfl)).1) (oc_cons (row_one (hS.own _ (List.mem_of_getElem? (i := 2) rfl)).1) oc_nil)) rfl rfl) ?_
    clear hF; intro a hF
    refine gQ 10 rfl rfl hF hS rfl (ef_storeW ty31 1 rfl rfl rfl rfl bQ (oc_cons (row_one (hS.own _ (List.mem_of_getElem? (i := 0) rfl)).1) (oc_cons (row_one (hS.own _ (List.mem_of_getElem? (i := 2) rfl)).1) oc_nil)) bQ) ?_
    clear hF hS; rintro _ _ _ a w ⟨rfl, rfl, rfl⟩ hF hS
    refine ⟨⟨iQ, iQ, iQ, iQ, iQ, trivial⟩, ?_⟩
    exact goW_done kQ (j5_mk v_1_0 v_1_3 v_1_4 v_1_7 b_1_9 (trivial) (hF.sub (L' := [(1, _), (2, _), (6, _), (7, _)]) ⟨rfl, rfl, rfl, rfl, trivial⟩) ((hS.perm (.swap _ _ _)).perm (.cons _ (.swap _ _ _))))
  ·refine stepW_ef _ rfl rfl hF hS rfl (ef_allocA ty31) ?_
   clear hF hS; rintro _ _ _ a w ⟨b_1_9, rfl, rfl, rfl⟩ hF hS
   refine ⟨⟨.inr (hS.k1 (sQ.n.n)), .inr hS.k0, .inr (hS.k1 (sQ.n.n)), .inr hS.k0, trivial⟩, ?_⟩
   refine goW_fork [0, 4] kQ rfl ⟨?_, ?_, trivial⟩
   ·refine stepW_ef _ rfl rfl hF hS rfl (ef_bslice0 ty28 ty66) ?_
    clear hF hS; rintro v_1_0 _ _ a w ⟨rfl, rfl⟩ hF hS
    refine ⟨⟨.inr (hS.k1 (sQ.n.n.n)), .inr hS.k0, .inr (hS.k1 (sQ.n.n.n)), .inr hS.k0, trivial⟩, ?_⟩
    refine goW_fork [3, 4] kQ rfl ⟨?_, ?_, trivial⟩
    ·refine stepW_ef _ rfl rfl hF hS rfl (ef_append ty28 ty66 0 rfl rfl rfl (src_slA ty28 hk zin0 (by decide)) bQ rfl (by decide)) ?_
     clear hF hS; rintro v_1_3 _ _ a w ⟨rfl, rfl⟩ hF hS
     refine ⟨⟨.inr (hS.k1 (sQ.n.n.n)), .inr hS.k0, iQ, iQ, trivial⟩, ?_⟩
     refine gQ 4 rfl rfl hF hS rfl (ef_bslice0 ty22 ty3) ?_
     clear hF hS; rintro v_1_4 _ _ a w ⟨rfl, rfl⟩ hF hS
     refine ⟨⟨.inr (hS.k1 (sQ.n.n.n.n)), .inr hS.k0, iQ, iQ, trivial⟩, ?_⟩
     refine gQ 7 rfl rfl hF hS rfl (ef_append ty22 ty3 0 rfl rfl rfl (src_slV ty22 hm zin0) bQ rfl (by decide)) ?_
     clear hF hS; rintro v_1_7 _ _ a w ⟨rfl, rfl⟩ hF hS
     refine ⟨⟨iQ, iQ, iQ, iQ, trivial⟩, ?_⟩
     refine goW_take 8 _ rfl kQ rfl hF (hS.keep sQ (zQ.k.k)) (q_buildS1 ty31 2 kQ rfl rfl (oc_cons (row_one (hS.own _ (List.mem_of_getElem? (i := 1) rfl)).1) (oc_cons (row_one (hS.own _ (List.mem_of_getElem? (i := 0) rfl)).1) oc_nil)) rfl rfl) ?_
     clear hF; intro a hF
     refine gQ 10 rfl rfl hF hS rfl (ef_storeW ty31 2 rfl rfl rfl rfl bQ (oc_cons (row_one (hS.own _ (List.mem_of_getElem? (i := 1) rfl)).1) (oc_cons (row_one (hS.own _ (List.mem_of_getElem? (i := 0) rfl)).1) oc_nil)) bQ) ?_
     clear hF hS; rintro _ _ _ a w ⟨rfl, rfl, rfl⟩ hF hS
     refine ⟨⟨iQ, iQ, iQ, iQ, iQ, trivial⟩, ?_⟩
     exact goW_done kQ (j5_mk v_1_0 v_1_3 v_1_4 v_1_7 b_1_9 (trivial) (hF.sub (L' := [(1, _), (2, _), (6, _), (7, _)]) ⟨rfl, rfl, rfl, rfl, trivial⟩) ((hS.perm (.cons _ (.swap _ _ _))).perm (.swap _ _ _)))
    ·refine stepW_ef _ rfl rfl hF hS rfl (ef_bslice0 ty22 ty3) ?_
     clear hF hS; rintro v_1_4 _ _ a w ⟨rfl, rfl⟩ hF hS
     refine ⟨⟨.inr (hS.k1 (sQ.n.n.n.n)), .inr hS.k0, .inr (hS.k1 (sQ.n.n.n.n)), .inr hS.k0, trivial⟩, ?_⟩
     refine gQ 3 rfl rfl hF hS rfl (ef_append ty28 ty66 1 rfl rfl rfl (src_slA ty28 hk zin0 (by decide)) bQ rfl (by decide)) ?_
     clear hF hS; rintro v_1_3 _ _ a w ⟨rfl, rfl⟩ hF hS
     refine ⟨⟨.inr (hS.k1 (sQ.n.n.n.n)), .inr hS.k0, iQ, iQ, trivial⟩, ?_⟩
     refine gQ 7 rfl rfl hF hS rfl (ef_append ty22 ty3 0 rfl rfl rfl (src_slV ty22 hm zin0) bQ rfl (by decide)) ?_
     clear hF hS; rintro v_1_7 _ _ a w ⟨rfl, rfl⟩ hF hS
     refine ⟨⟨iQ, iQ, iQ, iQ, trivial⟩, ?_⟩
     refine goW_take 8 _ rfl kQ rfl hF (hS.keep sQ (zQ.k.k)) (q_buildS1 ty31 2 kQ rfl rfl (oc_cons (row_one (hS.own _ (List.mem_of_getElem? (i := 1) rfl)).1) (oc_cons (row_one (hS.own _ (List.mem_of_getElem? (i := 0) rfl)).1) oc_nil)) rfl rfl) ?_
     clear hF; intro a hF
     refine gQ 10 rfl rfl hF hS rfl (ef_storeW ty31 2 rfl rfl rfl rfl bQ (oc_cons (row_one (hS.own _ (List.mem_of_getElem? (i := 1) rfl)).1) (oc_cons (row_one (hS.own _ (List.mem_of_getElem? (i := 0) rfl)).1) oc_nil)) bQ) ?_
     clear hF hS; rintro _ _ _ a w ⟨rfl, rfl, rfl⟩ hF hS
     refine ⟨⟨iQ, iQ, iQ, iQ, iQ, trivial⟩, ?_⟩
     exact goW_done kQ (j5_mk v_1_0 v_1_3 v_1_4 v_1_7 b_1_9 (trivial) (hF.sub (L' := [(1, _), (2, _), (6, _), (7, _)]) ⟨rfl, rfl, rfl, rfl, trivial⟩) ((hS.perm (.cons _ (.swap _ _ _))).perm (.swap _ _ _)))
   ·refine stepW_ef _ rfl rfl hF hS rfl (ef_bslice0 ty22 ty3) ?_
    clear hF hS; rintro v_1_4 _ _ a w ⟨rfl, rfl⟩ hF hS
    refine ⟨⟨.inr (hS.k1 (sQ.n.n.n)), .inr hS.k0, .inr (hS.k1 (sQ.n.n.n)), .inr hS.k0, trivial⟩, ?_⟩
    refine gQ 0 rfl rfl hF hS rfl (ef_bslice0 ty28 ty66) ?_
    clear hF hS; rintro v_1_0 _ _ a w ⟨rfl, rfl⟩ hF hS
    refine ⟨⟨.inr (hS.k1 (sQ.n.n.n.n)), .inr hS.k0, .inr (hS.k1 (sQ.n.n.n.n)), .inr hS.k0, trivial⟩, ?_⟩
    refine gQ 3 rfl rfl hF hS rfl (ef_append ty28 ty66 0 rfl rfl rfl (src_slA ty28 hk zin0 (by decide)) bQ rfl (by decide)) ?_
    clear hF hS; rintro v_1_3 _ _ a w ⟨rfl, rfl⟩ hF hS
    refine ⟨⟨.inr (hS.k1 (sQ.n.n.n.n)), .inr hS.k0, iQ, iQ, trivial⟩, ?_⟩
    refine gQ 7 rfl rfl hF hS rfl (ef_append ty22 ty3 1 rfl rfl rfl (src_slV ty22 hm zin0) bQ rfl (by decide)) ?_
    clear hF hS; rintro v_1_7 _ _ a w ⟨rfl, rfl⟩ hF hS
    refine ⟨⟨iQ, iQ, iQ, iQ, trivial⟩, ?_⟩
    refine goW_take 8 _ rfl kQ rfl hF (hS.keep sQ (zQ.k.k)) (q_buildS1 ty31 2 kQ rfl rfl (oc_cons (row_one (hS.own _ (List.mem_of_getElem? (i := 0) rfl)).1) (oc_cons (row_one (hS.own _ (List.mem_of_getElem? (i := 1) rfl)).1) oc_nil)) rfl rfl) ?_
    clear hF; intro a hF
    refine gQ 10 rfl rfl hF hS rfl (ef_storeW ty31 2 rfl rfl rfl rfl bQ (oc_cons (row_one (hS.own _ (List.mem_of_getElem? (i := 0) rfl)).1) (oc_cons (row_one (hS.own _ (List.mem_of_getElem? (i := 1) rfl)).1) oc_nil)) bQ) ?_
    clear hF hS; rintro _ _ _ a w ⟨rfl, rfl, rfl⟩ hF hS
    refine ⟨⟨iQ, iQ, iQ, iQ, iQ, trivial⟩, ?_⟩
    exact goW_done kQ (j5_mk v_1_0 v_1_3 v_1_4 v_1_7 b_1_9 (trivial) (hF.sub (L' := [(1, _), (2, _), (6, _), (7, _)]) ⟨rfl, rfl, rfl, rfl, trivial⟩) (((hS.perm (.cons _ (.swap _ _ _))).perm (.swap _ _ _)).perm (.cons _ (.swap _ _ _))))
 rintro a w ⟨v_1_0, v_1_3, v_1_4, v_1_7, b_1_9, -, hF, hS⟩
 (try dsimp only at hF); (try dsimp only at hS)
 replace hS := hS.perm (.cons _ (.swap _ _ _))
 replace hS := hS.perm (.swap _ _ _)
 replace hS := hS.rowEq (Nat.zero_add _) (List.nil_append _)
 replace hS : St _ [] [_, _, _, _, _] _ := hS
 replace hS := hS.perm (.cons _ (.swap _ _ _))
 replace hS := hS.perm (.swap _ _ _)
 replace hS := hS.rowEq (Nat.zero_add _) (List.nil_append _)
 replace hS : St _ [] [_, _, _, _, _] _ := hS
 refine hK2 _ _ ?_
 clear hK2
 refine wp_seq_k ?_; intro K3 hK3
 refine reg hF hS (sq rfl (q_move rfl) <|
   sq rfl (q_fieldAddr ty31 rfl rfl (s' := 0) kQ) <|
   sq rfl (q_ld_blk1 ty22 2 rfl rfl rfl rfl) <|
   sq rfl (q_len_row ty22 0 rfl rfl) <|
   sq rfl (q_max rfl rfl) <|
   sq rfl (q_call fn40 rfl (fun w hS => arnd_ct _ _ (by omega) (by omega) w ) (fun _ _ _ h => h)) <|
   sq rfl (q_assign rfl) <|
   sq_end) ?_
 clear hF hS; intro a w hF hS
 refine hK3 _ _ ?_
 clear hK3
 refine wp_seq_k ?_; intro K4 hK4
 refine wp_seq_k ?_; intro K5 hK5
 refine reg hF hS (sq rfl (q_move rfl) <|
   sq rfl (q_call fn40 rfl (fun w hS => arnd_ct _ _ (by omega) (by omega) w ) (fun _ _ _ h => h)) <|
   sq_end) ?_
 clear hF hS; intro a w hF hS
 refine hK5 _ _ ?_
 clear hK5
 refine wp_block ?_
 refine wp_seq_k ?_; intro K6 hK6
 refine reg hF hS (sq rfl (q_eqi rfl rfl) <|
   sq rfl (q_assign rfl) <|
   sq_end) ?_
 clear hF hS; intro a w hF hS
 refine hK6 _ _ ?_
 clear hK6
 refine wp_ifd hF rfl (fun hc1 => ?_) (fun hc1 => ?_)
 ·refine wp_seq_k ?_; intro K7 hK7
  refine reg hF hS (sq rfl (q_move rfl) <|
    sq rfl (q_fieldAddr ty31 rfl rfl (s' := 0) kQ) <|
    sq rfl (q_ld_blk1 ty22 2 rfl rfl rfl rfl) <|
    sq rfl (q_len_row ty22 0 rfl rfl) <|
    sq rfl (q_lti rfl rfl) <|
    sq_end) ?_
  clear hF hS; intro a w hF hS
  refine hK7 _ _ ?_
  clear hK7
  refine wp_ifd hF rfl (fun hc2 => ?_) (fun hc2 => ?_)
  ·refine regt 8 mixed kQ hF hS (sq rfl (q_fieldAddr ty31 rfl rfl (s' := 0) kQ) <|
     sq rfl (q_ld_blk1 ty22 2 rfl rfl rfl rfl) <|
     sq rfl (q_move rfl) <|
     sq rfl (q_move rfl) <|
     sq rfl (q_quoi' rfl rfl (by omega)) <|
     sq rfl (q_call fn40 rfl (fun w hS => arnd_ct _ _ (by omega) (by omega) w ) (fun _ _ _ h => h)) <|
     sq rfl (q_subi rfl rfl (by omega)) <|
     sq rfl (q_idx_row ty22 ty3 0 rfl rfl rfl (by omega)) <|
     sq_end) ?_
   clear hF hS; intro a w hF hS
   refine wpl_ef hF hS rfl (ef_st_row ty3 0 rfl rfl rfl (by omega) rfl) ?_
   clear hF hS; rintro _ _ _ a w ⟨rfl, rfl, rfl⟩ hF hS
   replace hS : St _ [] [_, _, _, _, _] _ := hS
   refine wpList_nil ?_
   refine hK4 _ _ ?_
   clear hK4
   refine wp_seq_k ?_; intro K8 hK8
   refine regl ?_
   refine wpl_sq hF hS (sq rfl (q_ld_blkW ty31 2 rfl rfl bQ rfl) <|
     sq_end) ?_
   clear hF hS; intro a w hF hS
   refine wpl_ef hF hS rfl (ef_storeW ty31 3 rfl rfl rfl rfl bQ (oc_cons (row_one (hS.own _ (List.mem_of_getElem? (i := 1) rfl)).1) (oc_cons (row_one (hS.own _ (List.mem_of_getElem? (i := 0) rfl)).1) oc_nil)) bQ) ?_
   clear hF hS; rintro _ _ _ a w ⟨rfl, rfl, rfl⟩ hF hS
   replace hS : St _ [] [_, _, _, _, _] _ := hS
   refine wpList_nil ?_
   refine hK8 _ _ ?_
   clear hK8
   refine wp_ret ?_
   replace hS := hS.perm (.swap _ _ _)
   obtain ⟨K9, zk, hzk, hS⟩ : ∃ K z, Sl (encA 16) z _ K ∧ St _ (z :: _) _ _ := oddA hS (by first | exact okA_same hk16x (by omega) | exact okA_set hk16x (by omega) (hk16 _ (by omega)) | exact okA_app hk16x (by omega) (d := (List.replicate 16 (0 : UInt8))) rfl)
   replace hS : St _ [_] [_, _, _, _] _ := hS
   obtain ⟨M9, zm, hzm, hS⟩ : ∃ M z, Sl encI z _ M ∧ St _ (z :: _) _ _ := oddI hS (by first | exact okI_same hmr (by omega) | exact okI_set hmr (by omega) (by omega) | exact okI_app hmr (by omega))
   replace hS : St _ [_, _] [_, _, _] _ := hS
   obtain ⟨zu, hzu, hS⟩ := hS.union
   exact fn_ret (rs := [.cell 6 31]) rfl hF hS (vs := [_]) ⟨⟨_, _, _, _, _, _, _, rfl, List.mem_of_getElem? (i := 1) rfl, ty31, .inl ⟨rfl, bQ, rfl⟩⟩, trivial⟩ (zs' := [zu]) (hs' := []) (List.singleton_sublist.2 (by simp)) zQ ⟨_, _, K9, M9, zu, rfl, hzk.mono (hzu _ (by simp)), hzm.mono (hzu _ (by simp)), rfl, rfl⟩
  ·refine wp_skip ?_
   refine hK4 _ _ ?_
   clear hK4
   refine wp_seq_k ?_; intro K9 hK9
   refine regl ?_
   refine wpl_sq hF hS (sq rfl (q_ld_blkW ty31 2 rfl rfl bQ rfl) <|
     sq_end) ?_
   clear hF hS; intro a w hF hS
   refine wpl_ef hF hS rfl (ef_storeW ty31 3 rfl rfl rfl rfl bQ (oc_cons (row_one (hS.own _ (List.mem_of_getElem? (i := 1) rfl)).1) (oc_cons (row_one (hS.own _ (List.mem_of_getElem? (i := 0) rfl)).1) oc_nil)) bQ) ?_
   clear hF hS; rintro _ _ _ a w ⟨rfl, rfl, rfl⟩ hF hS
   replace hS : St _ [] [_, _, _, _, _] _ := hS
   refine wpList_nil ?_
   refine hK9 _ _ ?_
   clear hK9
   refine wp_ret ?_
   replace hS := hS.perm (.swap _ _ _)
   obtain ⟨K9, zk, hzk, hS⟩ : ∃ K z, Sl (encA 16) z _ K ∧ St _ (z :: _) _ _ := oddA hS (by first | exact okA_same hk16x (by omega) | exact okA_set hk16x (by omega) (hk16 _ (by omega)) | exact okA_app hk16x (by omega) (d := (List.replicate 16 (0 : UInt8))) rfl)
   replace hS : St _ [_] [_, _, _, _] _ := hS
   obtain ⟨M9, zm, hzm, hS⟩ : ∃ M z, Sl encI z _ M ∧ St _ (z :: _) _ _ := oddI hS (by first | exact okI_same hmr (by omega) | exact okI_set hmr (by omega) (by omega) | exact okI_app hmr (by omega))
   replace hS : St _ [_, _] [_, _, _] _ := hS
   obtain ⟨zu, hzu, hS⟩ := hS.union
   exact fn_ret (rs := [.cell 6 31]) rfl hF hS (vs := [_]) ⟨⟨_, _, _, _, _, _, _, rfl, List.mem_of_getElem? (i := 1) rfl, ty31, .inl ⟨rfl, bQ, rfl⟩⟩, trivial⟩ (zs' := [zu]) (hs' := []) (List.singleton_sublist.2 (by simp)) zQ ⟨_, _, K9, M9, zu, rfl, hzk.mono (hzu _ (by simp)), hzm.mono (hzu _ (by simp)), rfl, rfl⟩
 ·refine wp_seq_k ?_; intro K10 hK10
  refine reg hF hS (sq rfl (q_eqi rfl rfl) <|
    sq rfl (q_assign rfl) <|
    sq_end) ?_
  clear hF hS; intro a w hF hS
  refine hK10 _ _ ?_
  clear hK10
  refine wp_ifd hF rfl (fun hc3 => ?_) (fun hc3 => ?_)
  ·refine regl ?_
   refine wpl_sq hF hS (sq rfl (q_fieldAddr ty31 rfl rfl (s' := 0) kQ) <|
     sq rfl (q_ld_blk1 ty22 2 rfl rfl rfl rfl) <|
     sq_end) ?_
   clear hF hS; intro a w hF hS
   refine wpl_ef hF hS rfl (ef_bsliceA ty22 ty3 rfl rfl oQ (by decide) rfl rfl) ?_
   clear hF hS; rintro v3 _ _ a w ⟨rfl, rfl⟩ hF hS
   replace hS : St _ [] [_, _, _, _, _, _] _ := hS
   refine wpl_ef hF hS rfl (ef_append ty22 ty3 1 rfl rfl rfl (src_row ty22 (k := 0) rfl oQ) bQ rfl (by decide)) ?_
   clear hF hS; rintro v5 _ _ a w ⟨rfl, rfl⟩ hF hS
   replace hS : St _ [] [_, _, _, _, _, _] _ := hS
   refine wpl_sq hF hS (sq rfl (q_fieldAddr ty31 rfl rfl (s' := 0) kQ) <|
     sq_end) ?_
   clear hF hS; intro a w hF hS
   refine wpl_ef hF hS rfl (ef_store1 ty22 3 rfl rfl rfl (row_one (hS.own _ (List.mem_of_getElem? (i := 1) rfl)).1) (by simp)) ?_
   clear hF hS; rintro _ _ _ a w ⟨rfl, rfl, rfl⟩ hF hS
   replace hS : St _ [] [_, _, _, .blk _ _ ([_, _].set 1 _), _, _] _ := hS
   simp only [List.set_cons_zero, List.set_cons_succ] at hS
   replace hS : St _ [] [_, _, _, _, _, _] _ := hS
   refine wpList_nil ?_
   refine hK4 _ _ ?_
   clear hK4
   refine wp_seq_k ?_; intro K11 hK11
   refine regl ?_
   refine wpl_sq hF hS (sq rfl (q_ld_blkW ty31 3 rfl rfl bQ rfl) <|
     sq_end) ?_
   clear hF hS; intro a w hF hS
   refine wpl_ef hF hS rfl (ef_storeW ty31 4 rfl rfl rfl rfl bQ (oc_cons (row_one (hS.own _ (List.mem_of_getElem? (i := 2) rfl)).1) (oc_cons (row_one (hS.own _ (List.mem_of_getElem? (i := 1) rfl)).1) oc_nil)) bQ) ?_
   clear hF hS; rintro _ _ _ a w ⟨rfl, rfl, rfl⟩ hF hS
   replace hS : St _ [] [_, _, _, _, _, _] _ := hS
   refine wpList_nil ?_
   refine hK11 _ _ ?_
   clear hK11
   refine wp_ret ?_
   replace hS := hS.perm (.cons _ (.swap _ _ _))
   replace hS := hS.perm (.swap _ _ _)
   obtain ⟨K9, zk, hzk, hS⟩ : ∃ K z, Sl (encA 16) z _ K ∧ St _ (z :: _) _ _ := oddA hS (by first | exact okA_same hk16x (by omega) | exact okA_set hk16x (by omega) (hk16 _ (by omega)) | exact okA_app hk16x (by omega) (d := (List.replicate 16 (0 : UInt8))) rfl)
   replace hS : St _ [_] [_, _, _, _, _] _ := hS
   replace hS := hS.perm (.swap _ _ _)
   obtain ⟨M9, zm, hzm, hS⟩ : ∃ M z, Sl encI z _ M ∧ St _ (z :: _) _ _ := oddI hS (by first | exact okI_same hmr (by omega) | exact okI_set hmr (by omega) (by omega) | exact okI_app hmr (by omega))
   replace hS : St _ [_, _] [_, _, _, _] _ := hS
   obtain ⟨zu, hzu, hS⟩ := hS.union
   exact fn_ret (rs := [.cell 6 31]) rfl hF hS (vs := [_]) ⟨⟨_, _, _, _, _, _, _, rfl, List.mem_of_getElem? (i := 2) rfl, ty31, .inl ⟨rfl, bQ, rfl⟩⟩, trivial⟩ (zs' := [zu]) (hs' := []) (List.singleton_sublist.2 (by simp)) zQ ⟨_, _, K9, M9, zu, rfl, hzk.mono (hzu _ (by simp)), hzm.mono (hzu _ (by simp)), rfl, rfl⟩
  ·refine wp_seq_k ?_; intro K12 hK12
   refine reg hF hS (sq rfl (q_eqi rfl rfl) <|
     sq rfl (q_assign rfl) <|
     sq_end) ?_
   clear hF hS; intro a w hF hS
   refine hK12 _ _ ?_
   clear hK12
   refine wp_ifd hF rfl (fun hc4 => ?_) (fun hc4 => ?_)
   ·refine wp_seq_k ?_; intro K13 hK13
    refine reg hF hS (sq rfl (q_move rfl) <|
      sq rfl (q_fieldAddr ty31 rfl rfl (s' := 0) kQ) <|
      sq rfl (q_ld_blk1 ty28 2 rfl rfl rfl rfl) <|
      sq rfl (q_len_row ty28 1 rfl rfl) <|
      sq rfl (q_lti rfl rfl) <|
      sq_end) ?_
    clear hF hS; intro a w hF hS
    refine hK13 _ _ ?_
    clear hK13
    refine wp_ifd hF rfl (fun hc5 => ?_) (fun hc5 => ?_)
    ·refine regt 8 mixed kQ hF hS (sq rfl (q_fieldAddr ty31 rfl rfl (s' := 0) kQ) <|
       sq rfl (q_ld_blk1 ty28 2 rfl rfl rfl rfl) <|
       sq rfl (q_move rfl) <|
       sq rfl (q_fieldAddr ty31 rfl rfl (s' := 0) kQ) <|
       sq rfl (q_ld_blk1 ty28 2 rfl rfl rfl rfl) <|
       sq rfl (q_idx_row ty28 ty66 1 rfl rfl rfl (by omega)) <|
       sq rfl (q_ld_rowA ty66 1 rfl hk16x rfl (by omega) (by decide) rfl) <|
       sq rfl (q_idx_row ty28 ty66 1 rfl rfl rfl (by omega)) <|
       sq_end) ?_
     clear hF hS; intro a w hF hS
     refine wpl_ef hF hS rfl (ef_st_rowA ty66 1 rfl rfl rfl hk16x (hk16 _ (by omega)) rfl (by omega)) ?_
     clear hF hS; rintro _ _ _ a w ⟨rfl, rfl, rfl⟩ hF hS
     replace hS : St _ [] [_, _, _, _, _] _ := hS
     refine wpList_nil ?_
     refine hK4 _ _ ?_
     clear hK4
     refine wp_seq_k ?_; intro K14 hK14
     refine regl ?_
     refine wpl_sq hF hS (sq rfl (q_ld_blkW ty31 2 rfl rfl bQ rfl) <|
       sq_end) ?_
     clear hF hS; intro a w hF hS
     refine wpl_ef hF hS rfl (ef_storeW ty31 3 rfl rfl rfl rfl bQ (oc_cons (row_one (hS.own _ (List.mem_of_getElem? (i := 1) rfl)).1) (oc_cons (row_one (hS.own _ (List.mem_of_getElem? (i := 0) rfl)).1) oc_nil)) bQ) ?_
     clear hF hS; rintro _ _ _ a w ⟨rfl, rfl, rfl⟩ hF hS
     replace hS : St _ [] [_, _, _, _, _] _ := hS
     refine wpList_nil ?_
     refine hK14 _ _ ?_
     clear hK14
     refine wp_ret ?_
     replace hS := hS.perm (.swap _ _ _)
     obtain ⟨K9, zk, hzk, hS⟩ : ∃ K z, Sl (encA 16) z _ K ∧ St _ (z :: _) _ _ := oddA hS (by first | exact okA_same hk16x (by omega) | exact okA_set hk16x (by omega) (hk16 _ (by omega)) | exact okA_app hk16x (by omega) (d := (List.replicate 16 (0 : UInt8))) rfl)
     replace hS : St _ [_] [_, _, _, _] _ := hS
     obtain ⟨M9, zm, hzm, hS⟩ : ∃ M z, Sl encI z _ M ∧ St _ (z :: _) _ _ := oddI hS (by first | exact okI_same hmr (by omega) | exact okI_set hmr (by omega) (by omega) | exact okI_app hmr (by omega))
     replace hS : St _ [_, _] [_, _, _] _ := hS
     obtain ⟨zu, hzu, hS⟩ := hS.union
     exact fn_ret (rs := [.cell 6 31]) rfl hF hS (vs := [_]) ⟨⟨_, _, _, _, _, _, _, rfl, List.mem_of_getElem? (i := 1) rfl, ty31, .inl ⟨rfl, bQ, rfl⟩⟩, trivial⟩ (zs' := [zu]) (hs' := []) (List.singleton_sublist.2 (by simp)) zQ ⟨_, _, K9, M9, zu, rfl, hzk.mono (hzu _ (by simp)), hzm.mono (hzu _ (by simp)), rfl, rfl⟩
    ·refine wp_skip ?_
     refine hK4 _ _ ?_
     clear hK4
     refine wp_seq_k ?_; intro K15 hK15
     refine regl ?_
     refine wpl_sq hF hS (sq rfl (q_ld_blkW ty31 2 rfl rfl bQ rfl) <|
       sq_end) ?_
     clear hF hS; intro a w hF hS
     refine wpl_ef hF hS rfl (ef_storeW ty31 3 rfl rfl rfl rfl bQ (oc_cons (row_one (hS.own _ (List.mem_of_getElem? (i := 1) rfl)).1) (oc_cons (row_one (hS.own _ (List.mem_of_getElem? (i := 0) rfl)).1) oc_nil)) bQ) ?_
     clear hF hS; rintro _ _ _ a w ⟨rfl, rfl, rfl⟩ hF hS
     replace hS : St _ [] [_, _, _, _, _] _ := hS
     refine wpList_nil ?_
     refine hK15 _ _ ?_
     clear hK15
     refine wp_ret ?_
     replace hS := hS.perm (.swap _ _ _)
     obtain ⟨K9, zk, hzk, hS⟩ : ∃ K z, Sl (encA 16) z _ K ∧ St _ (z :: _) _ _ := oddA hS (by first | exact okA_same hk16x (by omega) | exact okA_set hk16x (by omega) (hk16 _ (by omega)) | exact okA_app hk16x (by omega) (d := (List.replicate 16 (0 : UInt8))) rfl)
     replace hS : St _ [_] [_, _, _, _] _ := hS
     obtain ⟨M9, zm, hzm, hS⟩ : ∃ M z, Sl encI z _ M ∧ St _ (z :: _) _ _ := oddI hS (by first | exact okI_same hmr (by omega) | exact okI_set hmr (by omega) (by omega) | exact okI_app hmr (by omega))
     replace hS : St _ [_, _] [_, _, _] _ := hS
     obtain ⟨zu, hzu, hS⟩ := hS.union
     exact fn_ret (rs := [.cell 6 31]) rfl hF hS (vs := [_]) ⟨⟨_, _, _, _, _, _, _, rfl, List.mem_of_getElem? (i := 1) rfl, ty31, .inl ⟨rfl, bQ, rfl⟩⟩, trivial⟩ (zs' := [zu]) (hs' := []) (List.singleton_sublist.2 (by simp)) zQ ⟨_, _, K9, M9, zu, rfl, hzk.mono (hzu _ (by simp)), hzm.mono (hzu _ (by simp)), rfl, rfl⟩
   ·refine regl ?_
    refine wpl_sq hF hS (sq rfl (q_fieldAddr ty31 rfl rfl (s' := 0) kQ) <|
      sq rfl (q_ld_blk1 ty28 2 rfl rfl rfl rfl) <|
      sq rfl (q_build rfl (run_build_arr ty66 ty5 (cells := (List.replicate 16 (0 : UInt8)).map vb) rfl)) <|
      sq_end) ?_
    clear hF hS; intro a w hF hS
    refine wpl_ef hF hS rfl (ef_bsliceW ty28 ty66 rfl bQ (by decide) oQ (by decide) (by decide)) ?_
    clear hF hS; rintro v6 _ _ a w ⟨rfl, rfl⟩ hF hS
    replace hS : St _ [] [_, _, _, _, _, _] _ := hS
    refine wpl_ef hF hS rfl (ef_append ty28 ty66 2 rfl rfl rfl (src_row ty28 (k := 0) rfl oQ) bQ rfl (by decide)) ?_
    clear hF hS; rintro v8 _ _ a w ⟨rfl, rfl⟩ hF hS
    replace hS : St _ [] [_, _, _, _, _, _] _ := hS
    refine wpl_sq hF hS (sq rfl (q_fieldAddr ty31 rfl rfl (s' := 0) kQ) <|
      sq_end) ?_
    clear hF hS; intro a w hF hS
    refine wpl_ef hF hS rfl (ef_store1 ty28 3 rfl rfl rfl (row_one (hS.own _ (List.mem_of_getElem? (i := 2) rfl)).1) (by simp)) ?_
    clear hF hS; rintro _ _ _ a w ⟨rfl, rfl, rfl⟩ hF hS
    replace hS : St _ [] [_, _, _, .blk _ _ ([_, _].set 0 _), _, _] _ := hS
    simp only [List.set_cons_zero, List.set_cons_succ] at hS
    replace hS : St _ [] [_, _, _, _, _, _] _ := hS
    refine wpList_nil ?_
    refine hK4 _ _ ?_
    clear hK4
    refine wp_seq_k ?_; intro K16 hK16
    refine regl ?_
    refine wpl_sq hF hS (sq rfl (q_ld_blkW ty31 3 rfl rfl bQ rfl) <|
      sq_end) ?_
    clear hF hS; intro a w hF hS
    refine wpl_ef hF hS rfl (ef_storeW ty31 4 rfl rfl rfl rfl bQ (oc_cons (row_one (hS.own _ (List.mem_of_getElem? (i := 2) rfl)).1) (oc_cons (row_one (hS.own _ (List.mem_of_getElem? (i := 1) rfl)).1) oc_nil)) bQ) ?_
    clear hF hS; rintro _ _ _ a w ⟨rfl, rfl, rfl⟩ hF hS
    replace hS : St _ [] [_, _, _, _, _, _] _ := hS
    refine wpList_nil ?_
    refine hK16 _ _ ?_
    clear hK16
    refine wp_ret ?_
    replace hS := hS.perm (.cons _ (.swap _ _ _))
    replace hS := hS.perm (.swap _ _ _)
    obtain ⟨K9, zk, hzk, hS⟩ : ∃ K z, Sl (encA 16) z _ K ∧ St _ (z :: _) _ _ := oddA hS (by first | exact okA_same hk16x (by omega) | exact okA_set hk16x (by omega) (hk16 _ (by omega)) | exact okA_app hk16x (by omega) (d := (List.replicate 16 (0 : UInt8))) rfl)
    replace hS : St _ [_] [_, _, _, _, _] _ := hS
    replace hS := hS.perm (.swap _ _ _)
    obtain ⟨M9, zm, hzm, hS⟩ : ∃ M z, Sl encI z _ M ∧ St _ (z :: _) _ _ := oddI hS (by first | exact okI_same hmr (by omega) | exact okI_set hmr (by omega) (by omega) | exact okI_app hmr (by omega))
    replace hS : St _ [_, _] [_, _, _, _] _ := hS
    obtain ⟨zu, hzu, hS⟩ := hS.union
    exact fn_ret (rs := [.cell 6 31]) rfl hF hS (vs := [_]) ⟨⟨_, _, _, _, _, _, _, rfl, List.mem_of_getElem? (i := 2) rfl, ty31, .inl ⟨rfl, bQ, rfl⟩⟩, trivial⟩ (zs' := [zu]) (hs' := []) (List.singleton_sublist.2 (by simp)) zQ ⟨_, _, K9, M9, zu, rfl, hzk.mono (hzu _ (by simp)), hzm.mono (hzu _ (by simp)), rfl, rfl⟩
end Go.Proofs.Ytefjpigmgmbghaa
