/- A text of a proof over this seat: walks over the program's functions and the plain laws that they need. -/
import Derived.Test.YtplceoanaoeejaaQp2
import Derived.Test.YtplceoanaoeejaaGpA
import Derived.Test.YtplceoanaoeejaaFwC
import Derived.Test.YtplceoanaoeejaaFwB
set_option linter.all false
namespace Go.Proofs.Ytplceoanaoeejaa
open Go.Fw
theorem ty78 : Tf Try.prog 78 (.struct #[⟨ "X", 33, 0, false, "", "", 0⟩, ⟨ "Q", 37, 3, false, "", "", 72⟩, ⟨ "Bad", 29, 5, false, "", "", 104⟩, ⟨ "Set", 3, 6, false, "", "", 128⟩, ⟨ "Taken", 22, 7, false, "", "", 136⟩, ⟨ "Asked", 22, 8, false, "", "", 160⟩]) 9 184 (.agg ([Value.slice none 0 0, Value.slice none 0 0, Value.slice none 0 0] ++ [Value.int .i64 0] ++ [Value.slice none 0 0, Value.slice none 0 0] ++ [Value.int .i64 0] ++ [Value.slice none 0 0, Value.slice none 0 0]).toArray) := ⟨Try.underlying78, by kernel_rfl⟩
theorem fn24 : FnOk Try.prog 24 := ⟨_, Try.func24, rfl, by kernel_rfl⟩
theorem fn38 : FnOk Try.prog 38 := ⟨_, Try.func38, rfl, by kernel_rfl⟩

/-- What row makes of a half that is being tested. -/
def HlfR (eh : Nat) (xN xS xB cV xD : Value) (base : Int) (σ : Int × List Int × List Int) : Value → List PH → List Res → Prop := fun r zs hs => ∃ uT uA, r = .tuple ([] : List Value).toArray ∧ zs = [] ∧ hs = [.blk eh 78 [xN, xS, xB, vi base, cV, xD, vi (σ.1), uT, uA], .row uT 3 1 (σ.2.1).length ((σ.2.1).map vi), .row uA 3 1 (σ.2.2).length ((σ.2.2).map vi)]
theorem hlf_of {eh : Nat} {xN xS xB cV xD : Value} {base : Int} {σ σ' : Int × List Int × List Int} {r : Value} {zs : List PH} {hs : List Res} (h : HlfR eh xN xS xB cV xD base σ r zs hs) (e : σ' = σ) : HlfR eh xN xS xB cV xD base σ' r zs hs := e ▸ h

set_option maxRecDepth 4000 in
set_option maxHeartbeats 2000000 in
theorem rrow_step (xN xS xB : Value) (xs : List Int) (xb : List Bool) (base : Int) (cV : Value) (ch : List Int) (xD : Value) (bs : List Bool) (eh : Nat) (hq1 : xb.length = xs.length) (hq2 : bs.length = xs.length) (hc8 : ch.length ≤ 8) (w0 : World) (zsr : List PH) (hxn : xN.oneCell' = true) (hxs : Sl encI (ph w0) xS xs) (hxb : Sl encT (ph w0) xB xb) (hc : Sl encI (ph w0) cV ch) (hbs : Sl encT (ph w0) xD bs) (f : Nat) (ih : ∀ (lo hi : Int) (a0 n : Nat) (s : Int) (T A : List Int) (uT uA : Value) (ha : lo = a0) (hb : hi = a0 + n) (hn1 : 1 ≤ n) (hnf : n ≤ f) (han : a0 + n ≤ ch.length) (hTl : T.length + n ≤ 1000) (hAl : A.length + 2 * n ≤ 1000) (hTr : Gp.Rg T) (hAr : Gp.Rg A), Cx Try.prog 38 [.pointer (some ⟨eh, 0, none⟩), vi lo, vi hi] w0 zsr [.blk eh 78 [xN, xS, xB, vi base, cV, xD, vi (s), uT, uA], .row uT 3 1 (T).length ((T).map vi), .row uA 3 1 (A).length ((A).map vi)] (HlfR eh xN xS xB cV xD base (Gp.row (Gp.gd xs xb bs) xs base ch f a0 n (s, T, A)))) (lo hi : Int) (a0 n : Nat) (s : Int) (T A : List Int) (uT uA : Value) (ha : lo = a0) (hb : hi = a0 + n) (hn1 : 1 ≤ n) (hnf : n ≤ f + 1) (han : a0 + n ≤ ch.length) (hTl : T.length + n ≤ 1000) (hAl : A.length + 2 * n ≤ 1000) (hTr : Gp.Rg T) (hAr : Gp.Rg A) : Cx Try.prog 38 [.pointer (some ⟨eh, 0, none⟩), vi lo, vi hi] w0 zsr [.blk eh 78 [xN, xS, xB, vi base, cV, xD, vi (s), uT, uA], .row uT 3 1 (T).length ((T).map vi), .row uA 3 1 (A).length ((A).map vi)] (HlfR eh xN xS xB cV xD base (Gp.row (Gp.gd xs xb bs) xs base ch (f + 1) a0 n (s, T, A))) := by
 refine fn_enterx Try.func38 rfl Try.ntmps38 (Nat.le_of_ble_eq_true rfl) fun hsr a w hF hS => ?_
 replace hS : St _ (_) (_ :: _ :: _ :: _) _ := hS
 have hsl := hxs.1
 have hcl := hc.1
 refine wp_seq_k ?_; intro K1 hK1
 refine reg hF hS (sq rfl (q_move rfl) <|
   sq rfl (q_nilCheck rfl) <|
   sq rfl (q_fieldAddr ty78 rfl rfl (s' := 0) kQ) <|
   sq rfl (q_ld_blk1 ty3 0 rfl rfl rfl rfl) <|
   sq rfl (q_assign rfl) <|
   sq_end) ?_
 clear hF hS; intro a w hF hS
 refine hK1 _ _ ?_
 clear hK1
 refine wp_seq_k ?_; intro K2 hK2
 refine wp_seq_k ?_; intro K3 hK3
 refine reg hF hS (sq rfl (q_move rfl) <|
   sq rfl (q_assign rfl) <|
   sq_end) ?_
 clear hF hS; intro a w hF hS
 refine hK3 _ _ ?_
 clear hK3
 refine wp_block ?_
 obtain ⟨hs0, hhs0, hS⟩ : ∃ h, h = _ ∧ St _ _ h _ := ⟨_, rfl, hS⟩
 refine wp_loopx (γ := Int) (lo) (fun (j : Int) => [(6, vi (Gp.orr ch s a0 (j - lo).toNat)), (7, vi j)]) [(0, _), (1, _), (2, _)] (fun (j : Int) => hs0) (fun (j : Int) => lo ≤ j ∧ j ≤ hi) (fun (j : Int) => (hi - j).toNat) (hF.sub ⟨(by rw [show (lo - lo).toNat = 0 by omega]; rfl), rfl, rfl, rfl, rfl, trivial⟩) (by subst hhs0; exact hS) (by exact ⟨Int.le_refl _, by omega⟩) ?_
 clear hF hS; rintro j a w hfact hF hS
 subst hhs0; (try dsimp only at hfact); (try dsimp only at hF); (try dsimp only at hS)
 obtain ⟨hj0, hj1⟩ := hfact
 replace hS : St _ (_) (_ :: _ :: _ :: _) _ := hS
 refine wp_seq_k ?_; intro K4 hK4
 refine wp_seq_k ?_; intro K5 hK5
 refine reg hF hS (sq rfl (q_move rfl) <|
   sq rfl (q_move rfl) <|
   sq rfl (q_lti rfl rfl) <|
   sq_end) ?_
 clear hF hS; intro a w hF hS
 refine hK5 _ _ ?_
 clear hK5
 refine wp_ifd hF rfl (fun hc1 => ?_) (fun hc1 => ?_)
 ·refine wp_skip ?_
  refine hK4 _ _ ?_
  clear hK4
  refine wp_seq_k ?_; intro K6 hK6
  refine wp_block ?_
  refine reg hF hS (sq rfl (q_move rfl) <|
    sq rfl (q_move rfl) <|
    sq rfl (q_nilCheck rfl) <|
    sq rfl (q_fieldAddr ty78 rfl rfl (s' := 1) kQ) <|
    sq rfl (q_fieldAddr ty37 rfl rfl (s' := 0) kQ) <|
    sq rfl (q_ld_blk1 ty22 0 rfl rfl rfl rfl) <|
    sq rfl (q_move rfl) <|
    sq rfl (q_idx_sl ty22 ty3 hc rfl rfl (by omega)) <|
    sq rfl (q_ld_I ty3 hc zin0 rfl rfl (by omega)) <|
    sq rfl (q_ori rfl rfl) <|
    sq rfl (q_assign rfl) <|
    sq_end) ?_
  clear hF hS; intro a w hF hS
  refine hK6 _ _ ?_
  clear hK6
  refine reg hF hS (sq rfl (q_move rfl) <|
    sq rfl (q_addi rfl rfl (by omega)) <|
    sq rfl (q_assign rfl) <|
    sq_end) ?_
  clear hF hS; intro a w hF hS
  refine ⟨(j + 1), ?_, ?_, hF.sub ⟨(by rw [show (j + 1 - lo).toNat = (j - lo).toNat + 1 by omega, Gp.orr, show a0 + (j - lo).toNat = j.toNat by omega]; rfl), rfl, rfl, rfl, rfl, trivial⟩, ?_⟩
  ·(try dsimp only); omega
  ·(try dsimp only); omega
  ·exact hS
 ·have hjb : j = hi := by omega
  rw [show (j - lo).toNat = n by omega] at hF
  obtain ⟨t, ht⟩ : ∃ t, t = Gp.orr ch s a0 n := ⟨_, rfl⟩
  have htr := Gp.orr_rng (ch := ch) (s := s) (a := a0) hn1
  rw [← ht] at hF htr
  refine wp_exit ?_
  refine hK2 _ _ ?_
  clear hK2
  obtain ⟨hs0, hhs0, hS⟩ : ∃ h, h = _ ∧ St _ _ h _ := ⟨_, rfl, hS⟩
  refine wp_cutx (γ := Value × List Int) (fun (gg : Value × List Int) => match gg with | (uB, A2) => []) [(0, _), (1, _), (2, _), (6, _)] (fun (gg : Value × List Int) => match gg with | (uB, A2) => ((hs0.set 0 (.blk eh 78 [xN, xS, xB, vi base, cV, xD, vi (s), uT, uB])).set 2 (.row uB 3 1 (A2).length ((A2).map vi)))) (fun (gg : Value × List Int) => match gg with | (uB, A2) => A2 = Gp.ask xs base A t) (hF.sub ⟨rfl, rfl, rfl, rfl, trivial⟩) hS ?_ ?_
  ·subst hhs0
   refine wp_seq_k ?_; intro K7 hK7
   refine regl ?_
   refine wpl_sq hF hS (sq rfl (q_move rfl) <|
     sq rfl (q_move rfl) <|
     sq rfl (q_nilCheck rfl) <|
     sq rfl (q_fieldAddr ty78 rfl rfl (s' := 1) kQ) <|
     sq rfl (q_fieldAddr ty37 rfl rfl (s' := 0) kQ) <|
     sq rfl (q_ld_blk1 ty3 0 rfl rfl rfl rfl) <|
     sq rfl (q_nei rfl rfl) <|
     sq rfl (q_move rfl) <|
     sq_end) ?_
   clear hF hS; intro a w hF hS
   refine wpl_and 7 37 7 hF hS rfl rfl rfl rfl rfl (fun hg => have hg := (nd_true hg); sq_go 37 rfl rfl rfl (q_move rfl) <|
     sq_go 37 rfl rfl rfl (q_nilCheck rfl) <|
     sq_go 37 rfl rfl rfl (q_fieldAddr ty78 rfl rfl (s' := 0) kQ) <|
     sq_go 37 rfl rfl rfl (q_ld_blk1 ty22 0 rfl rfl rfl rfl) <|
     sq_go 37 rfl rfl rfl (q_move rfl) <|
     sq_go 37 rfl rfl rfl (q_call fn24 rfl (fun w hS => rin_ct _ _ _ w (own_slV (hS.own _ (List.mem_of_getElem? (i := 2) rfl)).1 (by first | assumption | (simp; done)) (by first | rfl | (simp; done) | (simp; omega) | omega) (by first | omega | (simp; omega)))) (fun _ _ _ h => h)) <|
     sq_go 37 rfl rfl rfl (q_not rfl) <|
     sq_end) rfl rfl ?_
   clear hF hS; intro a w hF hS
   refine wpl_sq hF hS (sq rfl (q_move rfl) <|
     sq_end) ?_
   clear hF hS; intro a w hF hS
   refine wpl_and 16 46 7 hF hS rfl rfl rfl rfl rfl (fun hg => have hg := hg; sq_go 46 rfl rfl rfl (q_move rfl) <|
     sq_go 46 rfl rfl rfl (q_nilCheck rfl) <|
     sq_go 46 rfl rfl rfl (q_fieldAddr ty78 rfl rfl (s' := 2) kQ) <|
     sq_go 46 rfl rfl rfl (q_ld_blkA (c := [_, _, _]) ty33 0 rfl rfl rfl (Nat.le_of_ble_eq_true rfl) rfl) <|
     sq_go 46 rfl rfl rfl (q_move rfl) <|
     sq_go 46 rfl rfl rfl (q_call fn41 rfl (fun w hS => rix_ct _ _ _ _ _ _ w hxn (Sl.mono (hS.le zin0) hxs) (Sl.mono (hS.le zin0) hxb)) (fun _ _ _ h => h)) <|
     sq_go 46 rfl rfl rfl (q_gei rfl rfl) <|
     sq_end) rfl rfl ?_
   clear hF hS; intro a w hF hS
   refine wpList_nil ?_
   refine hK7 _ _ ?_
   clear hK7
   refine wp_if hF rfl (fun hc2 => ?_) (fun hc2 => ?_)
   ·(try simp only [Bool.or_eq_true, Bool.and_eq_true, Bool.or_eq_false_iff, Bool.and_eq_false_iff, decide_eq_true_eq, decide_eq_false_iff_not, Bool.not_eq_true', Bool.not_eq_false'] at hc2)
    refine regl ?_
    refine wpl_sq hF hS (sq rfl (q_move rfl) <|
      sq rfl (q_move rfl) <|
      sq rfl (q_nilCheck rfl) <|
      sq rfl (q_fieldAddr ty78 rfl rfl (s' := 0) kQ) <|
      sq rfl (q_ld_blk1 ty22 0 rfl rfl rfl rfl) <|
      sq rfl (q_move rfl) <|
      sq_end) ?_
    clear hF hS; intro a w hF hS
    refine wpl_ef hF hS rfl (ef_bsliceA ty22 ty3 rfl rfl oQ (by decide) rfl rfl) ?_
    clear hF hS; rintro v1 _ _ a w ⟨rfl, rfl⟩ hF hS
    replace hS : St _ (_) (_ :: _ :: _ :: _ :: _) _ := hS
    refine wpl_ef hF hS rfl (ef_append ty22 ty3 3 rfl rfl rfl (src_row ty22 (k := 0) rfl oQ) bQ rfl (by decide)) ?_
    clear hF hS; rintro v3 _ _ a w ⟨rfl, rfl⟩ hF hS
    replace hS : St _ (_) (_ :: _ :: _ :: _ :: _) _ := hS
    refine wpl_sq hF hS (sq rfl (q_nilCheck rfl) <|
      sq rfl (q_fieldAddr ty78 rfl rfl (s' := 0) kQ) <|
      sq_end) ?_
    clear hF hS; intro a w hF hS
    refine wpl_ef hF hS rfl (ef_store1 ty22 1 rfl rfl rfl (row_one (hS.own _ (List.mem_of_getElem? (i := 3) rfl)).1) (by simp)) ?_
    clear hF hS; rintro _ _ _ a w ⟨rfl, rfl, rfl⟩ hF hS
    replace hS : St _ (_) (_ :: .blk _ _ ([_, _, _, _, _, _, _, _, _].set 8 _) :: _ :: _ :: _) _ := hS
    simp only [List.set_cons_zero, List.set_cons_succ] at hS
    replace hS : St _ (_) (_ :: _ :: _ :: _ :: _) _ := hS
    refine wpList_nil ?_
    replace hS := hS.perm (.swap _ _ _)
    replace hS := hS.perm (.cons _ (.swap _ _ _))
    replace hS := hS.perm (.cons _ (.cons _ (.swap _ _ _)))
    replace hS := hS.keep sQ (sQ.n.k.k.k)
    refine ⟨(v3, A ++ [t]), ?_, hF.sub ⟨rfl, rfl, rfl, rfl, trivial⟩, ?_⟩
    ·unfold Gp.ask; rw [if_pos hc2]
    ·dsimp only; rw [List.length_append, List.map_append]; exact hS
   ·(try simp only [Bool.or_eq_true, Bool.and_eq_true, Bool.or_eq_false_iff, Bool.and_eq_false_iff, decide_eq_true_eq, decide_eq_false_iff_not, Bool.not_eq_true', Bool.not_eq_false'] at hc2)
    refine wp_skip ?_
    refine ⟨(uA, A), ?_, hF.sub ⟨rfl, rfl, rfl, rfl, trivial⟩, ?_⟩
    ·unfold Gp.ask; rw [if_neg (fun h => by rcases hc2 with (h1 | h1) | h1; exact h.1.1 h1; exact h.1.2 h1; exact h1 h.2)]
    ·exact hS
  clear hF hS; rintro ⟨uB, A2⟩ a w hfact hF hS
  subst hhs0; (try dsimp only at hfact); (try dsimp only at hF); (try dsimp only at hS)
  have hA2 := hfact
  replace hS : St _ (_) (_ :: _ :: _ :: _) _ := hS
  have hA2l := Gp.ask_len xs base A t
  rw [← hA2] at hA2l
  have hA2r : Gp.Rg A2 := hA2 ▸ Gp.ask_rg hAr htr
  refine wp_seq_k ?_; intro K8 hK8
  refine wp_seq_k ?_; intro K9 hK9
  refine regd mixed kQ hF hS (sq rfl (q_move rfl) <|
    sq rfl (q_nilCheck rfl) <|
    sq rfl (q_fieldAddr ty78 rfl rfl (s' := 2) kQ) <|
    sq rfl (q_ld_blkA (c := [_, _, _]) ty33 0 rfl rfl rfl (Nat.le_of_ble_eq_true rfl) rfl) <|
    sq rfl (q_move rfl) <|
    sq rfl (q_nilCheck rfl) <|
    sq rfl (q_fieldAddr ty78 rfl rfl (s' := 0) kQ) <|
    sq rfl (q_ld_blk1 ty29 0 rfl rfl rfl rfl) <|
    sq rfl (q_move rfl) <|
    sq rfl (q_call fn35 rfl (fun w hS => rgood_ct _ _ _ _ _ _ _ _ (by omega) (by omega) w hxn (Sl.mono (hS.le zin0) hxs) (Sl.mono (hS.le zin0) hxb) (Sl.mono (hS.le zin0) hbs)) (fun _ _ _ h => h)) <|
    sq_end) ?_
  clear hF hS; intro a w hF hS
  refine hK9 _ _ ?_
  clear hK9
  refine wp_if hF rfl (fun hc3 => ?_) (fun hc3 => ?_)
  ·refine wp_seq_k ?_; intro K10 hK10
   refine regl ?_
   refine wpl_sq hF hS (sq rfl (q_move rfl) <|
     sq rfl (q_move rfl) <|
     sq rfl (q_nilCheck rfl) <|
     sq rfl (q_fieldAddr ty78 rfl rfl (s' := 0) kQ) <|
     sq_end) ?_
   clear hF hS; intro a w hF hS
   refine wpl_ef hF hS rfl (ef_store1 ty3 0 rfl rfl rfl rfl (by simp)) ?_
   clear hF hS; rintro _ _ _ a w ⟨rfl, rfl, rfl⟩ hF hS
   replace hS : St _ (_) (.blk _ _ ([_, _, _, _, _, _, _, _, _].set 6 _) :: _ :: _ :: _) _ := hS
   simp only [List.set_cons_zero, List.set_cons_succ] at hS
   replace hS : St _ (_) (_ :: _ :: _ :: _) _ := hS
   refine wpList_nil ?_
   refine hK10 _ _ ?_
   clear hK10
   refine wp_seq_k ?_; intro K11 hK11
   refine wp_seq_k ?_; intro K12 hK12
   refine reg hF hS (sq rfl (q_move rfl) <|
     sq rfl (q_assign rfl) <|
     sq_end) ?_
   clear hF hS; intro a w hF hS
   refine hK12 _ _ ?_
   clear hK12
   refine wp_block ?_
   obtain ⟨hs0, hhs0, hS⟩ : ∃ h, h = _ ∧ St _ _ h _ := ⟨_, rfl, hS⟩
   refine wp_loopx (γ := Value × Int) (uT, lo) (fun (gg : Value × Int) => match gg with | (u, j) => [(8, vi j)]) [(0, _), (2, _)] (fun (gg : Value × Int) => match gg with | (u, j) => ((hs0.set 0 (.blk eh 78 [xN, xS, xB, vi base, cV, xD, vi (t), u, uB])).set 1 (.row u 3 1 (T ++ Gp.rng a0 (j - lo).toNat).length ((T ++ Gp.rng a0 (j - lo).toNat).map vi)))) (fun (gg : Value × Int) => match gg with | (u, j) => lo ≤ j ∧ j ≤ hi) (fun (gg : Value × Int) => match gg with | (u, j) => (hi - j).toNat) (hF.sub ⟨rfl, rfl, rfl, trivial⟩) (by subst hhs0; have e : T ++ Gp.rng a0 (lo - lo).toNat = T := (by rw [show (lo - lo).toNat = 0 by omega]; simp [Gp.rng]); dsimp only; rw [e]; exact hS) (by exact ⟨Int.le_refl _, by omega⟩) ?_
   clear hF hS; rintro ⟨u, j⟩ a w hfact hF hS
   subst hhs0; (try dsimp only at hfact); (try dsimp only at hF); (try dsimp only at hS)
   obtain ⟨hj0, hj1⟩ := hfact
   replace hS : St _ (_) (_ :: _ :: _ :: _) _ := hS
   have hrl := Gp.rng_len a0 (j - lo).toNat
   refine wp_seq_k ?_; intro K13 hK13
   refine wp_seq_k ?_; intro K14 hK14
   refine reg hF hS (sq rfl (q_move rfl) <|
     sq rfl (q_move rfl) <|
     sq rfl (q_lti rfl rfl) <|
     sq_end) ?_
   clear hF hS; intro a w hF hS
   refine hK14 _ _ ?_
   clear hK14
   refine wp_ifd hF rfl (fun hc4 => ?_) (fun hc4 => ?_)
   ·refine wp_skip ?_
    refine hK13 _ _ ?_
    clear hK13
    refine wp_seq_k ?_; intro K15 hK15
    refine wp_block ?_
    refine regl ?_
    refine wpl_sq hF hS (sq rfl (q_move rfl) <|
      sq rfl (q_move rfl) <|
      sq rfl (q_nilCheck rfl) <|
      sq rfl (q_fieldAddr ty78 rfl rfl (s' := 0) kQ) <|
      sq rfl (q_ld_blk1 ty22 0 rfl rfl rfl rfl) <|
      sq rfl (q_move rfl) <|
      sq_end) ?_
    clear hF hS; intro a w hF hS
    refine wpl_ef hF hS rfl (ef_bsliceA ty22 ty3 rfl rfl oQ (by decide) rfl rfl) ?_
    clear hF hS; rintro v4 _ _ a w ⟨rfl, rfl⟩ hF hS
    replace hS : St _ (_) (_ :: _ :: _ :: _ :: _) _ := hS
    refine wpl_ef hF hS rfl (ef_append ty22 ty3 2 rfl rfl rfl (src_row ty22 (k := 0) rfl oQ) bQ rfl (by decide)) ?_
    clear hF hS; rintro v6 _ _ a w ⟨rfl, rfl⟩ hF hS
    replace hS : St _ (_) (_ :: _ :: _ :: _ :: _) _ := hS
    refine wpl_sq hF hS (sq rfl (q_nilCheck rfl) <|
      sq rfl (q_fieldAddr ty78 rfl rfl (s' := 0) kQ) <|
      sq_end) ?_
    clear hF hS; intro a w hF hS
    refine wpl_ef hF hS rfl (ef_store1 ty22 1 rfl rfl rfl (row_one (hS.own _ (List.mem_of_getElem? (i := 2) rfl)).1) (by simp)) ?_
    clear hF hS; rintro _ _ _ a w ⟨rfl, rfl, rfl⟩ hF hS
    replace hS : St _ (_) (_ :: .blk _ _ ([_, _, _, _, _, _, _, _, _].set 7 _) :: _ :: _ :: _) _ := hS
    simp only [List.set_cons_zero, List.set_cons_succ] at hS
    replace hS : St _ (_) (_ :: _ :: _ :: _ :: _) _ := hS
    refine wpList_nil ?_
    refine hK15 _ _ ?_
    clear hK15
    refine reg hF hS (sq rfl (q_move rfl) <|
      sq rfl (q_addi rfl rfl (by omega)) <|
      sq rfl (q_assign rfl) <|
      sq_end) ?_
    clear hF hS; intro a w hF hS
    replace hS := hS.keep sQ (sQ.n)
    refine ⟨(v6, j + 1), ?_, ?_, hF.sub ⟨rfl, rfl, rfl, trivial⟩, ?_⟩
    ·(try dsimp only); omega
    ·(try dsimp only); omega
    ·dsimp only; rw [show (j + 1 - lo).toNat = (j - lo).toNat + 1 by omega, Gp.rng_succ, ← List.append_assoc, List.length_append, List.map_append, show a0 + (j - lo).toNat = j.toNat by omega, show ((j.toNat : Nat) : Int) = j by omega]; exact hS
   ·have hjb : j = hi := by omega
    rw [show (j - lo).toNat = n by omega] at hS
    refine wp_exit ?_
    refine hK11 _ _ ?_
    clear hK11
    refine wp_ret ?_
    exact fn_retx (rs := []) rfl hF hS (vs := []) trivial [] [_, _, _] sQ sQ (hlf_of (σ := (t, T ++ Gp.rng a0 n, A2)) ⟨_, _, rfl, rfl, rfl⟩ (by rw [Gp.row_good (by rw [← ht]; exact hc3), ← ht, hA2]))
  ·have hg3 : (Gp.gd xs xb bs) (Gp.orr ch s a0 n) = false := by rw [← ht]; simpa using hc3
   refine wp_skip ?_
   refine hK8 _ _ ?_
   clear hK8
   refine wp_seq_k ?_; intro K16 hK16
   refine reg hF hS (sq rfl (q_move rfl) <|
     sq rfl (q_move rfl) <|
     sq rfl (q_subi rfl rfl (by omega)) <|
     sq rfl (q_gti rfl rfl) <|
     sq_end) ?_
   clear hF hS; intro a w hF hS
   refine hK16 _ _ ?_
   clear hK16
   refine wp_ifd hF rfl (fun hc5 => ?_) (fun hc5 => ?_)
   ·have hn2 : 1 < n := by omega
    refine wp_seq_k ?_; intro K17 hK17
    refine reg hF hS (sq rfl (q_move rfl) <|
      sq rfl (q_move rfl) <|
      sq rfl (q_move rfl) <|
      sq rfl (q_subi rfl rfl (by omega)) <|
      sq rfl (q_quoi rfl rfl (by omega)) <|
      sq rfl (q_addi rfl rfl (by omega)) <|
      sq rfl (q_assign rfl) <|
      sq_end) ?_
    clear hF hS; intro a w hF hS
    refine hK17 _ _ ?_
    clear hK17
    refine wp_seq_k ?_; intro K18 hK18
    refine regl ?_
    refine wpl_sq hF hS (sq rfl (q_move rfl) <|
      sq rfl (q_move rfl) <|
      sq rfl (q_move rfl) <|
      sq_end) ?_
    clear hF hS; intro a w hF hS
    refine wpl_ef hF hS rfl (ef_callx fn38 rfl (List.Perm.refl _) (by exact (ih _ _ a0 (n / 2) s T A2 uT uB (by omega) (by omega) (by omega) (by omega) (by omega) (by omega) (by omega) hTr hA2r ))) ?_
    clear hF hS; rintro _ _ _ a w ⟨_, _, rfl, rfl, ⟨uT1, uA1, rfl, rfl, rfl⟩⟩ hF hS
    replace hS : St _ (_) (_ :: _ :: _ :: _) _ := hS
    refine wpList_nil ?_
    have hbd := Gp.row_bd (Gp.gd xs xb bs) xs base ch f a0 (n / 2) (s, T, A2) (by omega) (by omega) (by omega) hTr hA2r
    obtain ⟨σ1, hσ1⟩ : ∃ σ, σ = Gp.row (Gp.gd xs xb bs) xs base ch f a0 (n / 2) (s, T, A2) := ⟨_, rfl⟩
    rw [← hσ1] at hbd hS
    dsimp only at hbd
    refine hK18 _ _ ?_
    clear hK18
    refine regl ?_
    refine wpl_sq hF hS (sq rfl (q_move rfl) <|
      sq rfl (q_move rfl) <|
      sq rfl (q_move rfl) <|
      sq_end) ?_
    clear hF hS; intro a w hF hS
    refine wpl_ef hF hS rfl (ef_callx fn38 rfl (List.Perm.refl _) (by exact (ih _ _ (a0 + n / 2) (n - n / 2) σ1.1 σ1.2.1 σ1.2.2 uT1 uA1 (by omega) (by omega) (by omega) (by omega) (by omega) (by omega) (by omega) hbd.2.2.1 hbd.2.2.2 ))) ?_
    clear hF hS; rintro _ _ _ a w ⟨_, _, rfl, rfl, ⟨uT2, uA2, rfl, rfl, rfl⟩⟩ hF hS
    replace hS : St _ (_) (_ :: _ :: _ :: _) _ := hS
    refine wpList_nil ?_
    -- falls off the end
    exact fn_retx (rs := []) rfl hF hS (vs := []) trivial [] [_, _, _] sQ sQ (hlf_of (σ := (Gp.row (Gp.gd xs xb bs) xs base ch f (a0 + n / 2) (n - n / 2) σ1)) ⟨_, _, rfl, rfl, rfl⟩ (by rw [Gp.row_half hg3 hn2, ← ht, ← hA2, hσ1]))
   ·have hn2 : ¬ 1 < n := by omega
    refine wp_skip ?_
    -- falls off the end
    exact fn_retx (rs := []) rfl hF hS (vs := []) trivial [] [_, _, _] sQ sQ (hlf_of (σ := (s, T, A2)) ⟨_, _, rfl, rfl, rfl⟩ (by rw [Gp.row_one hg3 hn2, ← ht, hA2]))

theorem rrow_ct (xN xS xB : Value) (xs : List Int) (xb : List Bool) (base : Int) (cV : Value) (ch : List Int) (xD : Value) (bs : List Bool) (eh : Nat) (hq1 : xb.length = xs.length) (hq2 : bs.length = xs.length) (hc8 : ch.length ≤ 8) (w0 : World) (zsr : List PH) (hxn : xN.oneCell' = true) (hxs : Sl encI (ph w0) xS xs) (hxb : Sl encT (ph w0) xB xb) (hc : Sl encI (ph w0) cV ch) (hbs : Sl encT (ph w0) xD bs) : ∀ (f : Nat) (lo hi : Int) (a0 n : Nat) (s : Int) (T A : List Int) (uT uA : Value) (ha : lo = a0) (hb : hi = a0 + n) (hn1 : 1 ≤ n) (hnf : n ≤ f) (han : a0 + n ≤ ch.length) (hTl : T.length + n ≤ 1000) (hAl : A.length + 2 * n ≤ 1000) (hTr : Gp.Rg T) (hAr : Gp.Rg A), Cx Try.prog 38 [.pointer (some ⟨eh, 0, none⟩), vi lo, vi hi] w0 zsr [.blk eh 78 [xN, xS, xB, vi base, cV, xD, vi (s), uT, uA], .row uT 3 1 (T).length ((T).map vi), .row uA 3 1 (A).length ((A).map vi)] (HlfR eh xN xS xB cV xD base (Gp.row (Gp.gd xs xb bs) xs base ch f a0 n (s, T, A))) := by
 intro f
 induction f with
 | zero => intro lo hi a0 n s T A uT uA ha hb hn1 hnf; omega
 | succ f ih => exact fun lo hi a0 n s T A uT uA ha hb hn1 hnf han hTl hAl hTr hAr => rrow_step xN xS xB xs xb base cV ch xD bs eh hq1 hq2 hc8 w0 zsr hxn hxs hxb hc hbs f ih lo hi a0 n s T A uT uA ha hb hn1 hnf han hTl hAl hTr hAr
end Go.Proofs.Ytplceoanaoeejaa
