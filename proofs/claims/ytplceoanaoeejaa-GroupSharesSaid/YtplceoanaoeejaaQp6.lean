/- A text of a proof over this seat: walks over the program's functions and the plain laws that they need. -/
import Derived.Test.YtplceoanaoeejaaQp5
import Derived.Test.YtplceoanaoeejaaGpA
import Derived.Test.YtplceoanaoeejaaFwC
import Derived.Test.YtplceoanaoeejaaFwB
set_option linter.all false
namespace Go.Proofs.Ytplceoanaoeejaa
open Go.Fw
theorem ty71 : Tf Try.prog 71 (.func #[3] #[4] false) 1 8 (Value.nilFunc) := ⟨Try.underlying71, by kernel_rfl⟩
theorem ty75 : Tf Try.prog 75 (.func #[3, 3] #[] false) 1 8 (Value.nilFunc) := ⟨Try.underlying75, by kernel_rfl⟩
theorem fn36 : FnOk Try.prog 36 := ⟨_, Try.func36, rfl, by kernel_rfl⟩
theorem fn37 : FnOk Try.prog 37 := ⟨_, Try.func37, rfl, by kernel_rfl⟩

set_option maxRecDepth 4000 in
set_option maxHeartbeats 2000000 in
theorem hrow_step (xN xS xB : Value) (xs : List Int) (xb : List Bool) (base : Int) (cV : Value) (ch : List Int) (xD : Value) (bs : List Bool) (e1 e2 e3 e4 e5 e6 e7 e8 e9 bm : Nat) (hq1 : xb.length = xs.length) (hq2 : bs.length = xs.length) (hc8 : ch.length ≤ 8) (w0 : World) (zsr : List PH) (hxn : xN.oneCell' = true) (hxs : Sl encI (ph w0) xS xs) (hxb : Sl encT (ph w0) xB xb) (hc : Sl encI (ph w0) cV ch) (hbs : Sl encT (ph w0) xD bs) (f : Nat) (ih : ∀ (lo hi : Int) (a0 n : Nat) (s : Int) (T A : List Int) (uT uA : Value) (es : List MapEntry) (ec : Nat) (ha : lo = a0) (hb : hi = a0 + n) (hn1 : 1 ≤ n) (hnf : n ≤ f) (han : a0 + n ≤ ch.length) (hTl : T.length + n ≤ 1000) (hAl : A.length + 2 * n ≤ 1000) (hTr : Gp.Rg T) (hAr : Gp.Rg A) (hKn : Gp.KnOk xs base A es), Cx Try.prog 37 [vi lo, vi hi, .pointer (some ⟨e1, 0, none⟩), .pointer (some ⟨e2, 0, none⟩), .pointer (some ⟨e3, 0, none⟩), .pointer (some ⟨e4, 0, none⟩), .pointer (some ⟨e5, 0, none⟩)] w0 zsr [.blk e1 3 [vi (s)], .blk e2 35 [vi base, cV], .blk e3 71 [.func (.func 36) (List.nil : List Value).toArray [Value.pointer (some ⟨e6, 0, none⟩), Value.pointer (some ⟨e8, 0, none⟩), Value.pointer (some ⟨e7, 0, none⟩), Value.pointer (some ⟨e9, 0, none⟩)].toArray], .blk e4 22 [uT], .blk e5 75 [.func (.func 37) (List.nil : List Value).toArray [Value.pointer (some ⟨e1, 0, none⟩), Value.pointer (some ⟨e2, 0, none⟩), Value.pointer (some ⟨e3, 0, none⟩), Value.pointer (some ⟨e4, 0, none⟩), Value.pointer (some ⟨e5, 0, none⟩)].toArray], .row uT 3 1 (T).length ((T).map vi), .blk e6 74 [.map (some bm)], .mp bm es ec, .blk e7 22 [uA], .row uA 3 1 (A).length ((A).map vi), .blk e8 31 [xN, xS, xB], .blk e9 68 [xN, xS, xB, xD]] (RowR xN xS xB xs base cV xD e1 e2 e3 e4 e5 e6 e7 e8 e9 bm (Gp.row (Gp.gd xs xb bs) xs base ch f a0 n (s, T, A)))) (lo hi : Int) (a0 n : Nat) (s : Int) (T A : List Int) (uT uA : Value) (es : List MapEntry) (ec : Nat) (ha : lo = a0) (hb : hi = a0 + n) (hn1 : 1 ≤ n) (hnf : n ≤ f + 1) (han : a0 + n ≤ ch.length) (hTl : T.length + n ≤ 1000) (hAl : A.length + 2 * n ≤ 1000) (hTr : Gp.Rg T) (hAr : Gp.Rg A) (hKn : Gp.KnOk xs base A es) : Cx Try.prog 37 [vi lo, vi hi, .pointer (some ⟨e1, 0, none⟩), .pointer (some ⟨e2, 0, none⟩), .pointer (some ⟨e3, 0, none⟩), .pointer (some ⟨e4, 0, none⟩), .pointer (some ⟨e5, 0, none⟩)] w0 zsr [.blk e1 3 [vi (s)], .blk e2 35 [vi base, cV], .blk e3 71 [.func (.func 36) (List.nil : List Value).toArray [Value.pointer (some ⟨e6, 0, none⟩), Value.pointer (some ⟨e8, 0, none⟩), Value.pointer (some ⟨e7, 0, none⟩), Value.pointer (some ⟨e9, 0, none⟩)].toArray], .blk e4 22 [uT], .blk e5 75 [.func (.func 37) (List.nil : List Value).toArray [Value.pointer (some ⟨e1, 0, none⟩), Value.pointer (some ⟨e2, 0, none⟩), Value.pointer (some ⟨e3, 0, none⟩), Value.pointer (some ⟨e4, 0, none⟩), Value.pointer (some ⟨e5, 0, none⟩)].toArray], .row uT 3 1 (T).length ((T).map vi), .blk e6 74 [.map (some bm)], .mp bm es ec, .blk e7 22 [uA], .row uA 3 1 (A).length ((A).map vi), .blk e8 31 [xN, xS, xB], .blk e9 68 [xN, xS, xB, xD]] (RowR xN xS xB xs base cV xD e1 e2 e3 e4 e5 e6 e7 e8 e9 bm (Gp.row (Gp.gd xs xb bs) xs base ch (f + 1) a0 n (s, T, A))) := by
 refine fn_enterx Try.func37 rfl Try.ntmps37 (Nat.le_of_ble_eq_true rfl) fun hsr a w hF hS => ?_
 replace hS : St _ (_) (_ :: _ :: _ :: _ :: _ :: _ :: _ :: _ :: _ :: _ :: _ :: _ :: _) _ := hS
 have hsl := hxs.1
 have hcl := hc.1
 have hlo : lo.toNat = a0 := by omega
 have hhi : hi.toNat = a0 + n := by omega
 have hcut := Gp.cut_len han
 refine wp_seq_k ?_; intro K1 hK1
 refine reg hF hS (sq rfl (q_ld_blk1 ty3 0 rfl rfl rfl rfl) <|
   sq rfl (q_assign rfl) <|
   sq_end) ?_
 clear hF hS; intro a w hF hS
 refine hK1 _ _ ?_
 clear hK1
 refine wp_seq_k ?_; intro K2 hK2
 refine wp_seq_k ?_; intro K3 hK3
 refine reg hF hS (sq rfl (q_fieldAddr ty35 rfl rfl (s' := 0) kQ) <|
   sq rfl (q_ld_blk1 ty22 1 rfl rfl rfl rfl) <|
   sq rfl (q_move rfl) <|
   sq rfl (q_move rfl) <|
   sq rfl (q_slsl_lo_hi ty22 ty3 hc rfl rfl rfl (by omega)) <|
   sq rfl (q_len_sl ty22 (Sl.cut hc (by omega)) rfl) <|
   sq rfl (q_move rfl) <|
   sq_end) ?_
 clear hF hS; intro a w hF hS
 rw [hlo, hhi] at hF
 refine hK3 _ _ ?_
 clear hK3
 refine wp_block ?_
 obtain ⟨hs0, hhs0, hS⟩ : ∃ h, h = _ ∧ St _ _ h _ := ⟨_, rfl, hS⟩
 refine wp_loopx (γ := Int) (0) (fun (k : Int) => [(9, vi (Gp.orr ch s a0 k.toNat)), (21, vi k)]) [(0, _), (1, _), (2, _), (4, _), (5, _), (6, _), (19, _), (20, _)] (fun (k : Int) => hs0) (fun (k : Int) => 0 ≤ k ∧ k ≤ n) (fun (k : Int) => (n - k).toNat) (hF.sub ⟨rfl, rfl, rfl, rfl, rfl, rfl, rfl, rfl, rfl, rfl, trivial⟩) (by subst hhs0; exact hS) (by exact ⟨Int.le_refl _, by omega⟩) ?_
 clear hF hS; rintro k a w hfact hF hS
 subst hhs0; (try dsimp only at hfact); (try dsimp only at hF); (try dsimp only at hS)
 obtain ⟨hk0, hk1⟩ := hfact
 replace hS : St _ (_) (_ :: _ :: _ :: _ :: _ :: _ :: _ :: _ :: _ :: _ :: _ :: _ :: _) _ := hS
 refine wp_seq_k ?_; intro K4 hK4
 refine reg hF hS (sq rfl (q_lti rfl rfl) <|
   sq_end) ?_
 clear hF hS; intro a w hF hS
 refine hK4 _ _ ?_
 clear hK4
 refine wp_seq_k ?_; intro K5 hK5
 refine wp_ifd hF rfl (fun hc1 => ?_) (fun hc1 => ?_)
 ·refine wp_skip ?_
  refine hK5 _ _ ?_
  clear hK5
  refine wp_seq_k ?_; intro K6 hK6
  refine wp_block ?_
  refine wp_seq_k ?_; intro K7 hK7
  refine reg hF hS (sq rfl (q_idx_sl ty22 ty3 (Sl.cut hc (by omega)) rfl rfl (by omega)) <|
    sq rfl (q_ld_I ty3 (Sl.cut hc (by omega)) zin0 rfl rfl (by omega)) <|
    sq rfl (q_assign rfl) <|
    sq_end) ?_
  clear hF hS; intro a w hF hS
  refine hK7 _ _ ?_
  clear hK7
  refine reg hF hS (sq rfl (q_move rfl) <|
    sq rfl (q_move rfl) <|
    sq rfl (q_ori rfl rfl) <|
    sq rfl (q_assign rfl) <|
    sq_end) ?_
  clear hF hS; intro a w hF hS
  refine hK6 _ _ ?_
  clear hK6
  refine reg hF hS (sq rfl (q_addi rfl rfl (by omega)) <|
    sq rfl (q_move rfl) <|
    sq_end) ?_
  clear hF hS; intro a w hF hS
  refine ⟨(k + 1), ?_, ?_, hF.sub ⟨(by rw [show (k + 1).toNat = k.toNat + 1 by omega, Gp.orr, ← Gp.cut_get (k := k.toNat) han (by omega)]; rfl), rfl, rfl, rfl, rfl, rfl, rfl, rfl, rfl, rfl, trivial⟩, ?_⟩
  ·(try dsimp only); omega
  ·(try dsimp only); omega
  ·exact hS
 ·have hkn : k = n := by omega
  rw [show k.toNat = n by omega] at hF
  obtain ⟨t, ht⟩ : ∃ t, t = Gp.orr ch s a0 n := ⟨_, rfl⟩
  have htr := Gp.orr_rng (ch := ch) (s := s) (a := a0) hn1
  rw [← ht] at hF htr
  refine wp_exit ?_
  refine hK2 _ _ ?_
  clear hK2
  refine wp_seq_k ?_; intro K8 hK8
  refine wp_seq_k ?_; intro K9 hK9
  refine regl ?_
  refine wpl_sq hF hS (sq rfl (q_ld_blk1 ty71 2 rfl rfl rfl rfl) <|
    sq rfl (q_move rfl) <|
    sq_end) ?_
  clear hF hS; intro a w hF hS
  replace hS := hS.perm (.cons _ (.cons _ (.cons _ (.cons _ (.cons _ (.swap _ _ _))))))
  replace hS := hS.perm (.cons _ (.cons _ (.cons _ (.cons _ (.swap _ _ _)))))
  replace hS := hS.perm (.cons _ (.cons _ (.cons _ (.swap _ _ _))))
  replace hS := hS.perm (.cons _ (.cons _ (.swap _ _ _)))
  replace hS := hS.perm (.cons _ (.swap _ _ _))
  replace hS := hS.perm (.swap _ _ _)
  replace hS := hS.perm (.cons _ (.cons _ (.cons _ (.cons _ (.cons _ (.cons _ (.swap _ _ _)))))))
  replace hS := hS.perm (.cons _ (.cons _ (.cons _ (.cons _ (.cons _ (.swap _ _ _))))))
  replace hS := hS.perm (.cons _ (.cons _ (.cons _ (.cons _ (.swap _ _ _)))))
  replace hS := hS.perm (.cons _ (.cons _ (.cons _ (.swap _ _ _))))
  replace hS := hS.perm (.cons _ (.cons _ (.swap _ _ _)))
  replace hS := hS.perm (.cons _ (.swap _ _ _))
  replace hS := hS.perm (.cons _ (.cons _ (.cons _ (.cons _ (.cons _ (.cons _ (.cons _ (.swap _ _ _))))))))
  replace hS := hS.perm (.cons _ (.cons _ (.cons _ (.cons _ (.cons _ (.cons _ (.swap _ _ _)))))))
  replace hS := hS.perm (.cons _ (.cons _ (.cons _ (.cons _ (.cons _ (.swap _ _ _))))))
  replace hS := hS.perm (.cons _ (.cons _ (.cons _ (.cons _ (.swap _ _ _)))))
  replace hS := hS.perm (.cons _ (.cons _ (.cons _ (.swap _ _ _))))
  replace hS := hS.perm (.cons _ (.cons _ (.swap _ _ _)))
  replace hS := hS.perm (.cons _ (.cons _ (.cons _ (.cons _ (.cons _ (.cons _ (.cons _ (.cons _ (.swap _ _ _)))))))))
  replace hS := hS.perm (.cons _ (.cons _ (.cons _ (.cons _ (.cons _ (.cons _ (.cons _ (.swap _ _ _))))))))
  replace hS := hS.perm (.cons _ (.cons _ (.cons _ (.cons _ (.cons _ (.cons _ (.swap _ _ _)))))))
  replace hS := hS.perm (.cons _ (.cons _ (.cons _ (.cons _ (.cons _ (.swap _ _ _))))))
  replace hS := hS.perm (.cons _ (.cons _ (.cons _ (.cons _ (.swap _ _ _)))))
  replace hS := hS.perm (.cons _ (.cons _ (.cons _ (.swap _ _ _))))
  replace hS := hS.perm (.cons _ (.cons _ (.cons _ (.cons _ (.cons _ (.cons _ (.cons _ (.cons _ (.cons _ (.swap _ _ _))))))))))
  replace hS := hS.perm (.cons _ (.cons _ (.cons _ (.cons _ (.cons _ (.cons _ (.cons _ (.cons _ (.swap _ _ _)))))))))
  replace hS := hS.perm (.cons _ (.cons _ (.cons _ (.cons _ (.cons _ (.cons _ (.cons _ (.swap _ _ _))))))))
  replace hS := hS.perm (.cons _ (.cons _ (.cons _ (.cons _ (.cons _ (.cons _ (.swap _ _ _)))))))
  replace hS := hS.perm (.cons _ (.cons _ (.cons _ (.cons _ (.cons _ (.swap _ _ _))))))
  replace hS := hS.perm (.cons _ (.cons _ (.cons _ (.cons _ (.swap _ _ _)))))
  replace hS := hS.perm (.cons _ (.cons _ (.cons _ (.cons _ (.cons _ (.cons _ (.cons _ (.cons _ (.cons _ (.cons _ (.swap _ _ _)))))))))))
  replace hS := hS.perm (.cons _ (.cons _ (.cons _ (.cons _ (.cons _ (.cons _ (.cons _ (.cons _ (.cons _ (.swap _ _ _))))))))))
  replace hS := hS.perm (.cons _ (.cons _ (.cons _ (.cons _ (.cons _ (.cons _ (.cons _ (.cons _ (.swap _ _ _)))))))))
  replace hS := hS.perm (.cons _ (.cons _ (.cons _ (.cons _ (.cons _ (.cons _ (.cons _ (.swap _ _ _))))))))
  replace hS := hS.perm (.cons _ (.cons _ (.cons _ (.cons _ (.cons _ (.cons _ (.swap _ _ _)))))))
  replace hS := hS.perm (.cons _ (.cons _ (.cons _ (.cons _ (.cons _ (.swap _ _ _))))))
  replace hS : St _ (_) (_ :: _ :: _ :: _ :: _ :: _ :: _ :: _ :: _ :: _ :: _ :: _ :: _) _ := hS
  refine wpl_ef hF hS rfl (ef_callvx fn36 rfl rfl (List.Perm.refl _) (by exact (test_ct xN xS xB xs xb base xD bs e6 e7 e8 e9 bm hq1 hq2 _ _ hxn hxs hxb hbs t A uA es ec htr (by omega) hKn ))) ?_
  clear hF hS; rintro _ _ _ a w ⟨_, _, rfl, rfl, ⟨uA1, es1, ec1, rfl, rfl, hKn1, rfl⟩⟩ hF hS
  replace hS : St _ (_) (_ :: _ :: _ :: _ :: _ :: _ :: _ :: _ :: _ :: _ :: _ :: _ :: _) _ := hS
  refine wpList_nil ?_
  obtain ⟨A2, hA2⟩ : ∃ A2, A2 = Gp.ask xs base A t := ⟨_, rfl⟩
  have hA2l := Gp.ask_len xs base A t
  have hA2r : Gp.Rg A2 := hA2 ▸ Gp.ask_rg hAr htr
  rw [← hA2] at hKn1 hS hA2l
  refine hK9 _ _ ?_
  clear hK9
  refine wp_if hF rfl (fun hc2 => ?_) (fun hc2 => ?_)
  ·refine wp_seq_k ?_; intro K10 hK10
   refine regl ?_
   refine wpl_sq hF hS (sq rfl (q_move rfl) <|
     sq_end) ?_
   clear hF hS; intro a w hF hS
   refine wpl_ef hF hS rfl (ef_store1 ty3 6 rfl rfl rfl rfl (by simp)) ?_
   clear hF hS; rintro _ _ _ a w ⟨rfl, rfl, rfl⟩ hF hS
   (try simp only [List.set_cons_zero, List.set_cons_succ] at hS)
   replace hS : St _ (_) (_ :: _ :: _ :: _ :: _ :: _ :: _ :: _ :: _ :: _ :: _ :: _ :: _) _ := hS
   refine wpList_nil ?_
   refine hK10 _ _ ?_
   clear hK10
   refine wp_seq_k ?_; intro K11 hK11
   refine wp_seq_k ?_; intro K12 hK12
   refine reg hF hS (sq rfl (q_move rfl) <|
     sq rfl (q_assign rfl) <|
     sq_end) ?_
   clear hF hS; intro a w hF hS
   refine hK12 _ _ ?_
   clear hK12
   refine wp_block ?_
   obtain ⟨hs0, hhs0, hS⟩ : ∃ h, h = _ ∧ St _ _ h _ := ⟨_, rfl, hS⟩
   refine wp_loopx (γ := Value × Int) (uT, lo) (fun (gg : Value × Int) => match gg with | (u, j) => [(12, vi j)]) [(1, _), (5, _)] (fun (gg : Value × Int) => match gg with | (u, j) => ((hs0.set 9 (.blk e4 22 [u])).set 11 (.row u 3 1 (T ++ Gp.rng a0 (j - lo).toNat).length ((T ++ Gp.rng a0 (j - lo).toNat).map vi)))) (fun (gg : Value × Int) => match gg with | (u, j) => lo ≤ j ∧ j ≤ hi) (fun (gg : Value × Int) => match gg with | (u, j) => (hi - j).toNat) (hF.sub ⟨rfl, rfl, rfl, trivial⟩) (by subst hhs0; have e : T ++ Gp.rng a0 (lo - lo).toNat = T := (by rw [show (lo - lo).toNat = 0 by omega]; simp [Gp.rng]); dsimp only; rw [e]; exact hS) (by exact ⟨Int.le_refl _, by omega⟩) ?_
   clear hF hS; rintro ⟨u, j⟩ a w hfact hF hS
   subst hhs0; (try dsimp only at hfact); (try dsimp only at hF); (try dsimp only at hS)
   obtain ⟨hj0, hj1⟩ := hfact
   replace hS : St _ (_) (_ :: _ :: _ :: _ :: _ :: _ :: _ :: _ :: _ :: _ :: _ :: _ :: _) _ := hS
   have hrl := Gp.rng_len a0 (j - lo).toNat
   refine wp_seq_k ?_; intro K13 hK13
   refine wp_seq_k ?_; intro K14 hK14
   refine reg hF hS (sq rfl (q_move rfl) <|
     sq rfl (q_move rfl) <|
     sq rfl (q_lti rfl rfl) <|
     sq_end) ?_
   clear hF hS; intro a w hF hS
   refine hK14 _ _ ?_
   clear hK14
   refine wp_ifd hF rfl (fun hc3 => ?_) (fun hc3 => ?_)
   ·refine wp_skip ?_
    refine hK13 _ _ ?_
    clear hK13
    refine wp_seq_k ?_; intro K15 hK15
    refine wp_block ?_
    refine regl ?_
    refine wpl_sq hF hS (sq rfl (q_ld_blk1 ty22 9 rfl rfl rfl rfl) <|
      sq rfl (q_move rfl) <|
      sq_end) ?_
    clear hF hS; intro a w hF hS
    refine wpl_ef hF hS rfl (ef_bsliceA ty22 ty3 rfl rfl oQ (by decide) rfl rfl) ?_
    clear hF hS; rintro v2 _ _ a w ⟨rfl, rfl⟩ hF hS
    replace hS : St _ (_) (_ :: _ :: _ :: _ :: _ :: _ :: _ :: _ :: _ :: _ :: _ :: _ :: _ :: _) _ := hS
    refine wpl_ef hF hS rfl (ef_append ty22 ty3 12 rfl rfl rfl (src_row ty22 (k := 0) rfl oQ) bQ rfl (by decide)) ?_
    clear hF hS; rintro v4 _ _ a w ⟨rfl, rfl⟩ hF hS
    replace hS : St _ (_) (_ :: _ :: _ :: _ :: _ :: _ :: _ :: _ :: _ :: _ :: _ :: _ :: _ :: _) _ := hS
    refine wpl_ef hF hS rfl (ef_store1 ty22 10 rfl rfl rfl (row_one (hS.own _ (List.mem_of_getElem? (i := 12) rfl)).1) (by simp)) ?_
    clear hF hS; rintro _ _ _ a w ⟨rfl, rfl, rfl⟩ hF hS
    (try simp only [List.set_cons_zero, List.set_cons_succ] at hS)
    replace hS : St _ (_) (_ :: _ :: _ :: _ :: _ :: _ :: _ :: _ :: _ :: _ :: _ :: _ :: _ :: _) _ := hS
    refine wpList_nil ?_
    refine hK15 _ _ ?_
    clear hK15
    refine reg hF hS (sq rfl (q_move rfl) <|
      sq rfl (q_addi rfl rfl (by omega)) <|
      sq rfl (q_assign rfl) <|
      sq_end) ?_
    clear hF hS; intro a w hF hS
    replace hS := hS.keep sQ (sQ.n)
    refine ⟨(v4, j + 1), ?_, ?_, hF.sub ⟨rfl, rfl, rfl, trivial⟩, ?_⟩
    ·(try dsimp only); omega
    ·(try dsimp only); omega
    ·dsimp only; rw [show (j + 1 - lo).toNat = (j - lo).toNat + 1 by omega, Gp.rng_succ, ← List.append_assoc, List.length_append, List.map_append, show a0 + (j - lo).toNat = j.toNat by omega, show ((j.toNat : Nat) : Int) = j by omega]; exact hS
   ·have hjb : j = hi := by omega
    rw [show (j - lo).toNat = n by omega] at hS
    refine wp_exit ?_
    refine hK11 _ _ ?_
    clear hK11
    refine wp_ret ?_
    replace hS := hS.perm (.cons _ (.cons _ (.cons _ (.cons _ (.cons _ (.swap _ _ _))))))
    replace hS := hS.perm (.cons _ (.cons _ (.cons _ (.cons _ (.swap _ _ _)))))
    replace hS := hS.perm (.cons _ (.cons _ (.cons _ (.swap _ _ _))))
    replace hS := hS.perm (.cons _ (.cons _ (.swap _ _ _)))
    replace hS := hS.perm (.cons _ (.swap _ _ _))
    replace hS := hS.perm (.swap _ _ _)
    replace hS := hS.perm (.cons _ (.cons _ (.cons _ (.cons _ (.cons _ (.cons _ (.swap _ _ _)))))))
    replace hS := hS.perm (.cons _ (.cons _ (.cons _ (.cons _ (.cons _ (.swap _ _ _))))))
    replace hS := hS.perm (.cons _ (.cons _ (.cons _ (.cons _ (.swap _ _ _)))))
    replace hS := hS.perm (.cons _ (.cons _ (.cons _ (.swap _ _ _))))
    replace hS := hS.perm (.cons _ (.cons _ (.swap _ _ _)))
    replace hS := hS.perm (.cons _ (.swap _ _ _))
    replace hS := hS.perm (.cons _ (.cons _ (.cons _ (.cons _ (.cons _ (.cons _ (.cons _ (.swap _ _ _))))))))
    replace hS := hS.perm (.cons _ (.cons _ (.cons _ (.cons _ (.cons _ (.cons _ (.swap _ _ _)))))))
    replace hS := hS.perm (.cons _ (.cons _ (.cons _ (.cons _ (.cons _ (.swap _ _ _))))))
    replace hS := hS.perm (.cons _ (.cons _ (.cons _ (.cons _ (.swap _ _ _)))))
    replace hS := hS.perm (.cons _ (.cons _ (.cons _ (.swap _ _ _))))
    replace hS := hS.perm (.cons _ (.cons _ (.swap _ _ _)))
    replace hS := hS.perm (.cons _ (.cons _ (.cons _ (.cons _ (.cons _ (.cons _ (.cons _ (.cons _ (.swap _ _ _)))))))))
    replace hS := hS.perm (.cons _ (.cons _ (.cons _ (.cons _ (.cons _ (.cons _ (.cons _ (.swap _ _ _))))))))
    replace hS := hS.perm (.cons _ (.cons _ (.cons _ (.cons _ (.cons _ (.cons _ (.swap _ _ _)))))))
    replace hS := hS.perm (.cons _ (.cons _ (.cons _ (.cons _ (.cons _ (.swap _ _ _))))))
    replace hS := hS.perm (.cons _ (.cons _ (.cons _ (.cons _ (.swap _ _ _)))))
    replace hS := hS.perm (.cons _ (.cons _ (.cons _ (.swap _ _ _))))
    replace hS := hS.perm (.cons _ (.cons _ (.cons _ (.cons _ (.cons _ (.cons _ (.cons _ (.cons _ (.cons _ (.swap _ _ _))))))))))
    replace hS := hS.perm (.cons _ (.cons _ (.cons _ (.cons _ (.cons _ (.cons _ (.cons _ (.cons _ (.swap _ _ _)))))))))
    replace hS := hS.perm (.cons _ (.cons _ (.cons _ (.cons _ (.cons _ (.cons _ (.cons _ (.swap _ _ _))))))))
    replace hS := hS.perm (.cons _ (.cons _ (.cons _ (.cons _ (.cons _ (.cons _ (.swap _ _ _)))))))
    replace hS := hS.perm (.cons _ (.cons _ (.cons _ (.cons _ (.cons _ (.swap _ _ _))))))
    replace hS := hS.perm (.cons _ (.cons _ (.cons _ (.cons _ (.swap _ _ _)))))
    replace hS := hS.perm (.cons _ (.cons _ (.cons _ (.cons _ (.cons _ (.cons _ (.cons _ (.cons _ (.cons _ (.cons _ (.swap _ _ _)))))))))))
    replace hS := hS.perm (.cons _ (.cons _ (.cons _ (.cons _ (.cons _ (.cons _ (.cons _ (.cons _ (.cons _ (.swap _ _ _))))))))))
    replace hS := hS.perm (.cons _ (.cons _ (.cons _ (.cons _ (.cons _ (.cons _ (.cons _ (.cons _ (.swap _ _ _)))))))))
    replace hS := hS.perm (.cons _ (.cons _ (.cons _ (.cons _ (.cons _ (.cons _ (.cons _ (.swap _ _ _))))))))
    replace hS := hS.perm (.cons _ (.cons _ (.cons _ (.cons _ (.cons _ (.cons _ (.swap _ _ _)))))))
    replace hS := hS.perm (.cons _ (.cons _ (.cons _ (.cons _ (.cons _ (.swap _ _ _))))))
    exact fn_retx (rs := []) rfl hF hS (vs := []) trivial [] [_, _, _, _, _, _, _, _, _, _, _, _] sQ sQ (row_of (σ := (t, T ++ Gp.rng a0 n, A2)) ⟨_, _, _, _, rfl, rfl, hKn1, rfl⟩ (by rw [Gp.row_good (by rw [← ht]; exact hc2), ← ht, hA2]))
  ·have hg3 : (Gp.gd xs xb bs) (Gp.orr ch s a0 n) = false := by rw [← ht]; simpa using hc2
   refine wp_skip ?_
   refine hK8 _ _ ?_
   clear hK8
   refine wp_seq_k ?_; intro K16 hK16
   refine reg hF hS (sq rfl (q_move rfl) <|
     sq rfl (q_move rfl) <|
     sq rfl (q_subi rfl rfl (by omega)) <|
     sq rfl (q_gti rfl rfl) <|
     sq_end) ?_
   clear hF hS; intro a w hF hS
   refine hK16 _ _ ?_
   clear hK16
   refine wp_ifd hF rfl (fun hc4 => ?_) (fun hc4 => ?_)
   ·have hn2 : 1 < n := by omega
    refine wp_seq_k ?_; intro K17 hK17
    refine reg hF hS (sq rfl (q_move rfl) <|
      sq rfl (q_move rfl) <|
      sq rfl (q_move rfl) <|
      sq rfl (q_subi rfl rfl (by omega)) <|
      sq rfl (q_quoi rfl rfl (by omega)) <|
      sq rfl (q_addi rfl rfl (by omega)) <|
      sq rfl (q_assign rfl) <|
      sq_end) ?_
    clear hF hS; intro a w hF hS
    refine hK17 _ _ ?_
    clear hK17
    refine wp_seq_k ?_; intro K18 hK18
    refine regl ?_
    refine wpl_sq hF hS (sq rfl (q_ld_blk1 ty75 10 rfl rfl rfl rfl) <|
      sq rfl (q_move rfl) <|
      sq rfl (q_move rfl) <|
      sq_end) ?_
    clear hF hS; intro a w hF hS
    replace hS := hS.perm (.cons _ (.cons _ (.cons _ (.cons _ (.cons _ (.swap _ _ _))))))
    replace hS := hS.perm (.cons _ (.cons _ (.cons _ (.cons _ (.swap _ _ _)))))
    replace hS := hS.perm (.cons _ (.cons _ (.cons _ (.swap _ _ _))))
    replace hS := hS.perm (.cons _ (.cons _ (.swap _ _ _)))
    replace hS := hS.perm (.cons _ (.swap _ _ _))
    replace hS := hS.perm (.swap _ _ _)
    replace hS := hS.perm (.cons _ (.cons _ (.cons _ (.cons _ (.cons _ (.cons _ (.swap _ _ _)))))))
    replace hS := hS.perm (.cons _ (.cons _ (.cons _ (.cons _ (.cons _ (.swap _ _ _))))))
    replace hS := hS.perm (.cons _ (.cons _ (.cons _ (.cons _ (.swap _ _ _)))))
    replace hS := hS.perm (.cons _ (.cons _ (.cons _ (.swap _ _ _))))
    replace hS := hS.perm (.cons _ (.cons _ (.swap _ _ _)))
    replace hS := hS.perm (.cons _ (.swap _ _ _))
    replace hS := hS.perm (.cons _ (.cons _ (.cons _ (.cons _ (.cons _ (.cons _ (.cons _ (.swap _ _ _))))))))
    replace hS := hS.perm (.cons _ (.cons _ (.cons _ (.cons _ (.cons _ (.cons _ (.swap _ _ _)))))))
    replace hS := hS.perm (.cons _ (.cons _ (.cons _ (.cons _ (.cons _ (.swap _ _ _))))))
    replace hS := hS.perm (.cons _ (.cons _ (.cons _ (.cons _ (.swap _ _ _)))))
    replace hS := hS.perm (.cons _ (.cons _ (.cons _ (.swap _ _ _))))
    replace hS := hS.perm (.cons _ (.cons _ (.swap _ _ _)))
    replace hS := hS.perm (.cons _ (.cons _ (.cons _ (.cons _ (.cons _ (.cons _ (.cons _ (.cons _ (.swap _ _ _)))))))))
    replace hS := hS.perm (.cons _ (.cons _ (.cons _ (.cons _ (.cons _ (.cons _ (.cons _ (.swap _ _ _))))))))
    replace hS := hS.perm (.cons _ (.cons _ (.cons _ (.cons _ (.cons _ (.cons _ (.swap _ _ _)))))))
    replace hS := hS.perm (.cons _ (.cons _ (.cons _ (.cons _ (.cons _ (.swap _ _ _))))))
    replace hS := hS.perm (.cons _ (.cons _ (.cons _ (.cons _ (.swap _ _ _)))))
    replace hS := hS.perm (.cons _ (.cons _ (.cons _ (.swap _ _ _))))
    replace hS := hS.perm (.cons _ (.cons _ (.cons _ (.cons _ (.cons _ (.cons _ (.cons _ (.cons _ (.cons _ (.swap _ _ _))))))))))
    replace hS := hS.perm (.cons _ (.cons _ (.cons _ (.cons _ (.cons _ (.cons _ (.cons _ (.cons _ (.swap _ _ _)))))))))
    replace hS := hS.perm (.cons _ (.cons _ (.cons _ (.cons _ (.cons _ (.cons _ (.cons _ (.swap _ _ _))))))))
    replace hS := hS.perm (.cons _ (.cons _ (.cons _ (.cons _ (.cons _ (.cons _ (.swap _ _ _)))))))
    replace hS := hS.perm (.cons _ (.cons _ (.cons _ (.cons _ (.cons _ (.swap _ _ _))))))
    replace hS := hS.perm (.cons _ (.cons _ (.cons _ (.cons _ (.swap _ _ _)))))
    replace hS := hS.perm (.cons _ (.cons _ (.cons _ (.cons _ (.cons _ (.cons _ (.cons _ (.cons _ (.cons _ (.cons _ (.swap _ _ _)))))))))))
    replace hS := hS.perm (.cons _ (.cons _ (.cons _ (.cons _ (.cons _ (.cons _ (.cons _ (.cons _ (.cons _ (.swap _ _ _))))))))))
    replace hS := hS.perm (.cons _ (.cons _ (.cons _ (.cons _ (.cons _ (.cons _ (.cons _ (.cons _ (.swap _ _ _)))))))))
    replace hS := hS.perm (.cons _ (.cons _ (.cons _ (.cons _ (.cons _ (.cons _ (.cons _ (.swap _ _ _))))))))
    replace hS := hS.perm (.cons _ (.cons _ (.cons _ (.cons _ (.cons _ (.cons _ (.swap _ _ _)))))))
    replace hS := hS.perm (.cons _ (.cons _ (.cons _ (.cons _ (.cons _ (.swap _ _ _))))))
    replace hS : St _ (_) (_ :: _ :: _ :: _ :: _ :: _ :: _ :: _ :: _ :: _ :: _ :: _ :: _) _ := hS
    refine wpl_ef hF hS rfl (ef_callvx fn37 rfl rfl (List.Perm.refl _) (by exact (ih _ _ a0 (n / 2) s T A2 uT uA1 es1 ec1 (by omega) (by omega) (by omega) (by omega) (by omega) (by omega) (by omega) hTr hA2r hKn1 ))) ?_
    clear hF hS; rintro _ _ _ a w ⟨_, _, rfl, rfl, ⟨uT2, uA2, es2, ec2, rfl, rfl, hKn2, rfl⟩⟩ hF hS
    replace hS : St _ (_) (_ :: _ :: _ :: _ :: _ :: _ :: _ :: _ :: _ :: _ :: _ :: _ :: _) _ := hS
    refine wpList_nil ?_
    have hbd := Gp.row_bd (Gp.gd xs xb bs) xs base ch f a0 (n / 2) (s, T, A2) (by omega) (by omega) (by omega) hTr hA2r
    obtain ⟨σ1, hσ1⟩ : ∃ σ, σ = Gp.row (Gp.gd xs xb bs) xs base ch f a0 (n / 2) (s, T, A2) := ⟨_, rfl⟩
    rw [← hσ1] at hbd hS hKn2
    dsimp only at hbd
    refine hK18 _ _ ?_
    clear hK18
    refine regl ?_
    refine wpl_sq hF hS (sq rfl (q_ld_blk1 ty75 4 rfl rfl rfl rfl) <|
      sq rfl (q_move rfl) <|
      sq rfl (q_move rfl) <|
      sq_end) ?_
    clear hF hS; intro a w hF hS
    refine wpl_ef hF hS rfl (ef_callvx fn37 rfl rfl (List.Perm.refl _) (by exact (ih _ _ (a0 + n / 2) (n - n / 2) σ1.1 σ1.2.1 σ1.2.2 uT2 uA2 es2 ec2 (by omega) (by omega) (by omega) (by omega) (by omega) (by omega) (by omega) hbd.2.2.1 hbd.2.2.2 hKn2 ))) ?_
    clear hF hS; rintro _ _ _ a w ⟨_, _, rfl, rfl, ⟨uT3, uA3, es3, ec3, rfl, rfl, hKn3, rfl⟩⟩ hF hS
    replace hS : St _ (_) (_ :: _ :: _ :: _ :: _ :: _ :: _ :: _ :: _ :: _ :: _ :: _ :: _) _ := hS
    refine wpList_nil ?_
    -- falls off the end
    exact fn_retx (rs := []) rfl hF hS (vs := []) trivial [] [_, _, _, _, _, _, _, _, _, _, _, _] sQ sQ (row_of (σ := (Gp.row (Gp.gd xs xb bs) xs base ch f (a0 + n / 2) (n - n / 2) σ1)) ⟨_, _, _, _, rfl, rfl, hKn3, rfl⟩ (by rw [Gp.row_half hg3 hn2, ← ht, ← hA2, hσ1]))
   ·have hn2 : ¬ 1 < n := by omega
    refine wp_skip ?_
    -- falls off the end
    replace hS := hS.perm (.cons _ (.cons _ (.cons _ (.cons _ (.cons _ (.swap _ _ _))))))
    replace hS := hS.perm (.cons _ (.cons _ (.cons _ (.cons _ (.swap _ _ _)))))
    replace hS := hS.perm (.cons _ (.cons _ (.cons _ (.swap _ _ _))))
    replace hS := hS.perm (.cons _ (.cons _ (.swap _ _ _)))
    replace hS := hS.perm (.cons _ (.swap _ _ _))
    replace hS := hS.perm (.swap _ _ _)
    replace hS := hS.perm (.cons _ (.cons _ (.cons _ (.cons _ (.cons _ (.cons _ (.swap _ _ _)))))))
    replace hS := hS.perm (.cons _ (.cons _ (.cons _ (.cons _ (.cons _ (.swap _ _ _))))))
    replace hS := hS.perm (.cons _ (.cons _ (.cons _ (.cons _ (.swap _ _ _)))))
    replace hS := hS.perm (.cons _ (.cons _ (.cons _ (.swap _ _ _))))
    replace hS := hS.perm (.cons _ (.cons _ (.swap _ _ _)))
    replace hS := hS.perm (.cons _ (.swap _ _ _))
    replace hS := hS.perm (.cons _ (.cons _ (.cons _ (.cons _ (.cons _ (.cons _ (.cons _ (.swap _ _ _))))))))
    replace hS := hS.perm (.cons _ (.cons _ (.cons _ (.cons _ (.cons _ (.cons _ (.swap _ _ _)))))))
    replace hS := hS.perm (.cons _ (.cons _ (.cons _ (.cons _ (.cons _ (.swap _ _ _))))))
    replace hS := hS.perm (.cons _ (.cons _ (.cons _ (.cons _ (.swap _ _ _)))))
    replace hS := hS.perm (.cons _ (.cons _ (.cons _ (.swap _ _ _))))
    replace hS := hS.perm (.cons _ (.cons _ (.swap _ _ _)))
    replace hS := hS.perm (.cons _ (.cons _ (.cons _ (.cons _ (.cons _ (.cons _ (.cons _ (.cons _ (.swap _ _ _)))))))))
    replace hS := hS.perm (.cons _ (.cons _ (.cons _ (.cons _ (.cons _ (.cons _ (.cons _ (.swap _ _ _))))))))
    replace hS := hS.perm (.cons _ (.cons _ (.cons _ (.cons _ (.cons _ (.cons _ (.swap _ _ _)))))))
    replace hS := hS.perm (.cons _ (.cons _ (.cons _ (.cons _ (.cons _ (.swap _ _ _))))))
    replace hS := hS.perm (.cons _ (.cons _ (.cons _ (.cons _ (.swap _ _ _)))))
    replace hS := hS.perm (.cons _ (.cons _ (.cons _ (.swap _ _ _))))
    replace hS := hS.perm (.cons _ (.cons _ (.cons _ (.cons _ (.cons _ (.cons _ (.cons _ (.cons _ (.cons _ (.swap _ _ _))))))))))
    replace hS := hS.perm (.cons _ (.cons _ (.cons _ (.cons _ (.cons _ (.cons _ (.cons _ (.cons _ (.swap _ _ _)))))))))
    replace hS := hS.perm (.cons _ (.cons _ (.cons _ (.cons _ (.cons _ (.cons _ (.cons _ (.swap _ _ _))))))))
    replace hS := hS.perm (.cons _ (.cons _ (.cons _ (.cons _ (.cons _ (.cons _ (.swap _ _ _)))))))
    replace hS := hS.perm (.cons _ (.cons _ (.cons _ (.cons _ (.cons _ (.swap _ _ _))))))
    replace hS := hS.perm (.cons _ (.cons _ (.cons _ (.cons _ (.swap _ _ _)))))
    replace hS := hS.perm (.cons _ (.cons _ (.cons _ (.cons _ (.cons _ (.cons _ (.cons _ (.cons _ (.cons _ (.cons _ (.swap _ _ _)))))))))))
    replace hS := hS.perm (.cons _ (.cons _ (.cons _ (.cons _ (.cons _ (.cons _ (.cons _ (.cons _ (.cons _ (.swap _ _ _))))))))))
    replace hS := hS.perm (.cons _ (.cons _ (.cons _ (.cons _ (.cons _ (.cons _ (.cons _ (.cons _ (.swap _ _ _)))))))))
    replace hS := hS.perm (.cons _ (.cons _ (.cons _ (.cons _ (.cons _ (.cons _ (.cons _ (.swap _ _ _))))))))
    replace hS := hS.perm (.cons _ (.cons _ (.cons _ (.cons _ (.cons _ (.cons _ (.swap _ _ _)))))))
    replace hS := hS.perm (.cons _ (.cons _ (.cons _ (.cons _ (.cons _ (.swap _ _ _))))))
    exact fn_retx (rs := []) rfl hF hS (vs := []) trivial [] [_, _, _, _, _, _, _, _, _, _, _, _] sQ sQ (row_of (σ := (s, T, A2)) ⟨_, _, _, _, rfl, rfl, hKn1, rfl⟩ (by rw [Gp.row_one hg3 hn2, ← ht, hA2]))

theorem hrow_ct (xN xS xB : Value) (xs : List Int) (xb : List Bool) (base : Int) (cV : Value) (ch : List Int) (xD : Value) (bs : List Bool) (e1 e2 e3 e4 e5 e6 e7 e8 e9 bm : Nat) (hq1 : xb.length = xs.length) (hq2 : bs.length = xs.length) (hc8 : ch.length ≤ 8) (w0 : World) (zsr : List PH) (hxn : xN.oneCell' = true) (hxs : Sl encI (ph w0) xS xs) (hxb : Sl encT (ph w0) xB xb) (hc : Sl encI (ph w0) cV ch) (hbs : Sl encT (ph w0) xD bs) : ∀ (f : Nat) (lo hi : Int) (a0 n : Nat) (s : Int) (T A : List Int) (uT uA : Value) (es : List MapEntry) (ec : Nat) (ha : lo = a0) (hb : hi = a0 + n) (hn1 : 1 ≤ n) (hnf : n ≤ f) (han : a0 + n ≤ ch.length) (hTl : T.length + n ≤ 1000) (hAl : A.length + 2 * n ≤ 1000) (hTr : Gp.Rg T) (hAr : Gp.Rg A) (hKn : Gp.KnOk xs base A es), Cx Try.prog 37 [vi lo, vi hi, .pointer (some ⟨e1, 0, none⟩), .pointer (some ⟨e2, 0, none⟩), .pointer (some ⟨e3, 0, none⟩), .pointer (some ⟨e4, 0, none⟩), .pointer (some ⟨e5, 0, none⟩)] w0 zsr [.blk e1 3 [vi (s)], .blk e2 35 [vi base, cV], .blk e3 71 [.func (.func 36) (List.nil : List Value).toArray [Value.pointer (some ⟨e6, 0, none⟩), Value.pointer (some ⟨e8, 0, none⟩), Value.pointer (some ⟨e7, 0, none⟩), Value.pointer (some ⟨e9, 0, none⟩)].toArray], .blk e4 22 [uT], .blk e5 75 [.func (.func 37) (List.nil : List Value).toArray [Value.pointer (some ⟨e1, 0, none⟩), Value.pointer (some ⟨e2, 0, none⟩), Value.pointer (some ⟨e3, 0, none⟩), Value.pointer (some ⟨e4, 0, none⟩), Value.pointer (some ⟨e5, 0, none⟩)].toArray], .row uT 3 1 (T).length ((T).map vi), .blk e6 74 [.map (some bm)], .mp bm es ec, .blk e7 22 [uA], .row uA 3 1 (A).length ((A).map vi), .blk e8 31 [xN, xS, xB], .blk e9 68 [xN, xS, xB, xD]] (RowR xN xS xB xs base cV xD e1 e2 e3 e4 e5 e6 e7 e8 e9 bm (Gp.row (Gp.gd xs xb bs) xs base ch f a0 n (s, T, A))) := by
 intro f
 induction f with
 | zero => intro lo hi a0 n s T A uT uA es ec ha hb hn1 hnf; omega
 | succ f ih => exact fun lo hi a0 n s T A uT uA es ec ha hb hn1 hnf han hTl hAl hTr hAr hKn => hrow_step xN xS xB xs xb base cV ch xD bs e1 e2 e3 e4 e5 e6 e7 e8 e9 bm hq1 hq2 hc8 w0 zsr hxn hxs hxb hc hbs f ih lo hi a0 n s T A uT uA es ec ha hb hn1 hnf han hTl hAl hTr hAr hKn
end Go.Proofs.Ytplceoanaoeejaa
