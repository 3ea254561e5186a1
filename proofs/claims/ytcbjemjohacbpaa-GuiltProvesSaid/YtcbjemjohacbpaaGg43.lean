/- A text of a proof over this seat: walks over the program's functions and the plain laws that they need. -/
import Derived.Test.YtcbjemjohacbpaaGg42
import Derived.Test.YtcbjemjohacbpaaGuA
import Derived.Test.YtcbjemjohacbpaaFwC
import Derived.Test.YtcbjemjohacbpaaFwB
set_option linter.all false
namespace Go.Proofs.Ytcbjemjohacbpaa
open Go.Fw
theorem ty75 : Tf Try.prog 75 (.slice 67) 1 24 (Value.slice none 0 0) := ⟨Try.underlying75, by kernel_rfl⟩
theorem fn11 : FnOk Try.prog 11 := ⟨_, Try.func11, rfl, by kernel_rfl⟩
theorem fn12 : FnOk Try.prog 12 := ⟨_, Try.func12, rfl, by kernel_rfl⟩
theorem fn19 : FnOk Try.prog 19 := ⟨_, Try.func19, rfl, by kernel_rfl⟩
theorem fn35 : FnOk Try.prog 35 := ⟨_, Try.func35, rfl, by kernel_rfl⟩
theorem fn36 : FnOk Try.prog 36 := ⟨_, Try.func36, rfl, by kernel_rfl⟩
theorem fn37 : FnOk Try.prog 37 := ⟨_, Try.func37, rfl, by kernel_rfl⟩
theorem fn38 : FnOk Try.prog 38 := ⟨_, Try.func38, rfl, by kernel_rfl⟩
theorem fn39 : FnOk Try.prog 39 := ⟨_, Try.func39, rfl, by kernel_rfl⟩
theorem fn40 : FnOk Try.prog 40 := ⟨_, Try.func40, rfl, by kernel_rfl⟩
theorem fn41 : FnOk Try.prog 41 := ⟨_, Try.func41, rfl, by kernel_rfl⟩
theorem fn42 : FnOk Try.prog 42 := ⟨_, Try.func42, rfl, by kernel_rfl⟩
theorem fn43 : FnOk Try.prog 43 := ⟨_, Try.func43, rfl, by kernel_rfl⟩
theorem fn44 : FnOk Try.prog 44 := ⟨_, Try.func44, rfl, by kernel_rfl⟩
theorem fn45 : FnOk Try.prog 45 := ⟨_, Try.func45, rfl, by kernel_rfl⟩

set_option maxRecDepth 4000 in
set_option maxHeartbeats 2000000 in
theorem law29_ct (v : Value) (l : List Int) (v2 : Value) (m : List Int) (v3 : Value) (n : List Int) (h : Int) (hh9 : -9223372036854775808 ≤ h ∧ h ≤ 9223372036854775807) (b : Int) (hb9 : -9223372036854775808 ≤ b ∧ b ≤ 9223372036854775807) (t : Int) (ht9 : -9223372036854775808 ≤ t ∧ t ≤ 9223372036854775807) (v7 : Value) (q : List Int) (ra rb rc : Value) (S0 F0 : List Int) (B0 : List Bool) (w : World) (hl : Sl encI (ph w) v l) (hm : Sl encI (ph w) v2 m) (hn : Sl encI (ph w) v3 n) (hq : Sl encI (ph w) v7 q) (hra : Sl encI (ph w) ra S0) (hrb : Sl encI (ph w) rb F0) (hrc : Sl encT (ph w) rc B0) : Ct Try.prog 9 [v, v2, v3, vi h, vi b, vi t, v7, .agg [ra, rb, rc].toArray] w (fun r _ _ => r = .bool true) := by
 refine fn_enter Try.func9 rfl Try.ntmps9 (Nat.le_of_ble_eq_true rfl) fun a hF hS => ?_
 have hql := hq.1
 refine wp_seq_k ?_; intro K1 hK1
 refine regl ?_
 refine wpl_ef hF hS rfl (ef_boxA rfl) ?_
 clear hF hS; rintro _ _ _ a w ⟨b1, rfl, rfl, rfl⟩ hF hS
 refine wpl_sq hF hS (sq rfl (q_assign rfl) <|
   sq_end) ?_
 clear hF hS; intro a w hF hS
 refine wpList_nil ?_
 refine hK1 _ _ ?_
 clear hK1
 refine wp_seq_k ?_; intro K2 hK2
 refine regl ?_
 refine wpl_sq hF hS (sq rfl (q_move rfl) <|
   sq rfl (q_move rfl) <|
   sq rfl (q_move rfl) <|
   sq_end) ?_
 clear hF hS; intro a w hF hS
 refine wpl_ef hF hS rfl (ef_call fn11 rfl (fun w hS => some_ct _ _ _ _ (by omega) (by omega) w (Sl.mono (hS.le zin0) hl))) ?_
 clear hF hS; rintro v2 _ _ a w ⟨_, _, rfl, rfl, ⟨ls, zL, hsL, h4L, hlL, rfl, rfl⟩⟩ hF hS
 replace hS : St _ [_] [_] _ := hS
 refine wpl_sq hF hS (sq rfl (q_assign rfl) <|
   sq_end) ?_
 clear hF hS; intro a w hF hS
 refine wpList_nil ?_
 refine hK2 _ _ ?_
 clear hK2
 refine wp_seq_k ?_; intro K3 hK3
 refine wp_seq_k ?_; intro K4 hK4
 refine reg hF hS (sq rfl (q_assign rfl) <|
   sq_end) ?_
 clear hF hS; intro a w hF hS
 refine hK4 _ _ ?_
 clear hK4
 refine wp_block ?_
 obtain ⟨hs0, hhs0, hS⟩ : ∃ h, h = _ ∧ St _ _ h _ := ⟨_, rfl, hS⟩
 refine wp_loopx (γ := Int) (0) (fun (i : Int) => [(18, vi i)]) [(1, _), (2, _), (3, _), (4, _), (5, _), (6, _), (15, _), (17, _)] (fun (i : Int) => hs0) (fun (i : Int) => 0 ≤ i ∧ i ≤ 4) (fun (i : Int) => (4 - i).toNat) (hF.sub ⟨rfl, rfl, rfl, rfl, rfl, rfl, rfl, rfl, rfl, trivial⟩) (by subst hhs0; exact hS) (by exact ⟨Int.le_refl _, by omega⟩) ?_
 clear hF hS; rintro i a w hfact hF hS
 subst hhs0; (try dsimp only at hfact); (try dsimp only at hF); (try dsimp only at hS)
 obtain ⟨hi0, hi1⟩ := hfact
 replace hS : St _ [_] [_] _ := hS
 refine wp_seq_k ?_; intro K5 hK5
 refine wp_seq_k ?_; intro K6 hK6
 refine reg hF hS (sq rfl (q_move rfl) <|
   sq rfl (q_move rfl) <|
   sq rfl (q_len_sl ty24 hsL rfl) <|
   sq rfl (q_lti rfl rfl) <|
   sq_end) ?_
 clear hF hS; intro a w hF hS
 refine hK6 _ _ ?_
 clear hK6
 refine wp_ifd hF rfl (fun hc1 => ?_) (fun hc1 => ?_)
 ·obtain ⟨nv, sv, bv, ns, is, bs, hxi, hcel, hn9, hs9, hb99⟩ := lat_at hsL (k := i.toNat) (by omega)
  obtain ⟨hln1, hln2, hln3⟩ : ns.length ≤ 40 ∧ is.length ≤ 40 ∧ bs.length ≤ 40 := hlL _ (List.mem_of_getElem? hxi)
  refine wp_skip ?_
  refine hK5 _ _ ?_
  clear hK5
  refine wp_seq_k ?_; intro K7 hK7
  refine wp_block ?_
  refine wp_seq_k ?_; intro K8 hK8
  refine regl ?_
  refine wpl_sq hF hS (sq rfl (q_move rfl) <|
    sq rfl (q_move rfl) <|
    sq rfl (q_idx_sl ty24 ty29 hsL rfl rfl (by omega)) <|
    sq rfl (q_ld_lat ty29 hsL (.inr (by simp)) hcel rfl rfl (by omega)) <|
    sq_end) ?_
  clear hF hS; intro a w hF hS
  refine wpl_ef hF hS rfl (ef_allocA ty29) ?_
  clear hF hS; rintro _ _ _ a w ⟨b3, rfl, rfl, rfl⟩ hF hS
  refine wpl_ef hF hS rfl (ef_storeW ty29 0 rfl rfl rfl rfl bQ (oc_cons (sl_one' hn9) (oc_cons (sl_one' hs9) (oc_cons (sl_one' hb99) oc_nil))) bQ) ?_
  clear hF hS; rintro _ _ _ a w ⟨rfl, rfl, rfl⟩ hF hS
  replace hS : St _ [_] [_, _] _ := hS
  refine wpList_nil ?_
  refine hK8 _ _ ?_
  clear hK8
  refine wp_seq_k ?_; intro K9 hK9
  refine regl ?_
  refine wpl_sq hF hS (sq rfl (q_ld_blkW ty29 0 rfl rfl bQ rfl) <|
    sq rfl (q_move rfl) <|
    sq_end) ?_
  clear hF hS; intro a w hF hS
  refine wpl_ef hF hS rfl (ef_call fn35 rfl (fun w hS => keysR_ct _ _ _ _ _ _ _ (by first | with_reducible assumption | omega) w (sl_one' hn9) (Sl.mono (hS.le (.inr (by simp))) hs9) (Sl.mono (hS.le (.inr (by simp))) hb99) (Sl.mono (hS.le zin0) hn))) ?_
  clear hF hS; rintro vK _ _ a w ⟨_, _, rfl, rfl, ⟨rfl, rfl⟩⟩ hF hS
  replace hS : St _ [_] [_, _, _] _ := hS
  refine wpl_sq hF hS (sq rfl (q_assign rfl) <|
    sq_end) ?_
  clear hF hS; intro a w hF hS
  refine wpList_nil ?_
  obtain ⟨ks, hks⟩ : ∃ ks, ks = Gu.kys n is.length := ⟨_, rfl⟩
  rw [← hks] at hS
  have hkl : ks.length = is.length := by rw [hks, Gu.kys_len]
  have hk16 : ∀ x ∈ ks, x.length = 16 := hks ▸ Gu.kys_16 n _
  have hkb : is.length ≤ 140737488355328 := by omega
  refine hK9 _ _ ?_
  clear hK9
  refine wp_seq_k ?_; intro K10 hK10
  refine regl ?_
  refine wpl_sq hF hS (sq rfl (q_ld_blkW ty29 1 rfl rfl bQ rfl) <|
    sq rfl (q_move rfl) <|
    sq_end) ?_
  clear hF hS; intro a w hF hS
  refine wpl_ef hF hS rfl (ef_call fn12 rfl (fun w hS => each_ct _ _ _ _ _ _ _ (by first | with_reducible assumption | omega) w (sl_one' hn9) (Sl.mono (hS.le (.inr (by simp))) hs9) (Sl.mono (hS.le (.inr (by simp))) hb99) (Sl.mono (hS.le zin0) hm))) ?_
  clear hF hS; rintro v5 _ _ a w ⟨_, _, rfl, rfl, ⟨zE, hzE, rfl, rfl⟩⟩ hF hS
  replace hS : St _ [_, _] [_, _, _] _ := hS
  refine wpl_sq hF hS (sq rfl (q_assign rfl) <|
    sq_end) ?_
  clear hF hS; intro a w hF hS
  refine wpList_nil ?_
  refine hK10 _ _ ?_
  clear hK10
  obtain ⟨hs0, hhs0, hS⟩ : ∃ h, h = _ ∧ St _ _ h _ := ⟨_, rfl, hS⟩
  refine wp_cutz (γ := Value × List Bool × PH) (fun (gg : Value × List Bool × PH) => match gg with | (vJ, M, zJ) => [zJ, zE, zL]) (fun (gg : Value × List Bool × PH) => match gg with | (vJ, M, zJ) => [(21, vJ)]) [(1, _), (2, _), (3, _), (4, _), (5, _), (6, _), (15, _), (17, _), (18, _), (19, _), (20, _)] (fun (gg : Value × List Bool × PH) => match gg with | (vJ, M, zJ) => hs0) (fun (gg : Value × List Bool × PH) => match gg with | (vJ, M, zJ) => Sl encT zJ vJ M) (hF.sub ⟨rfl, rfl, rfl, rfl, rfl, rfl, rfl, rfl, rfl, rfl, rfl, trivial⟩) hS ?_ ?_
  ·subst hhs0
   refine wp_seq_k ?_; intro K11 hK11
   refine regl ?_
   refine wpl_sq hF hS (sq rfl (q_fieldAddr ty29 rfl rfl (s' := 0) kQ) <|
     sq rfl (q_ld_blk1 ty23 1 rfl rfl rfl rfl) <|
     sq rfl (q_len_sl ty23 hb99 rfl) <|
     sq rfl (q_fieldAddr ty29 rfl rfl (s' := 0) kQ) <|
     sq rfl (q_ld_blk1 ty22 1 rfl rfl rfl rfl) <|
     sq rfl (q_len_sl ty22 hs9 rfl) <|
     sq rfl (q_eqi rfl rfl) <|
     sq rfl (q_move rfl) <|
     sq_end) ?_
   clear hF hS; intro a w hF hS
   refine wpl_and 7 64 3 hF hS rfl rfl rfl rfl rfl (fun hg => have hg := (by first | exact of_decide_eq_true hg | exact hg); sq_go 64 rfl rfl rfl (q_move rfl) <|
     sq_go 64 rfl rfl rfl (q_remi' rfl rfl (by decide)) <|
     sq_go 64 rfl rfl rfl (q_gti rfl rfl) <|
     sq_end) rfl rfl ?_
   clear hF hS; intro a w hF hS
   refine wpList_nil ?_
   refine hK11 _ _ ?_
   clear hK11
   refine wp_if hF rfl (fun hc2 => ?_) (fun hc2 => ?_)
   ·(try simp only [Bool.or_eq_true, Bool.and_eq_true, Bool.or_eq_false_iff, Bool.and_eq_false_iff, decide_eq_true_eq, decide_eq_false_iff_not, Bool.not_eq_true', Bool.not_eq_false'] at hc2)
    have hq1 : bs.length = is.length := by have := hc2.1; omega
    refine regl ?_
    refine wpl_sq hF hS (sq rfl (q_ld_blkW ty29 1 rfl rfl bQ rfl) <|
      sq rfl (q_move rfl) <|
      sq rfl (q_move rfl) <|
      sq rfl (q_quoi' rfl rfl (by omega)) <|
      sq_end) ?_
    clear hF hS; intro a w hF hS
    refine wpl_ef hF hS rfl (ef_call fn36 rfl (fun w hS => marks_ct _ _ _ _ _ _ _ _ (by first | with_reducible assumption | omega) (by omega) (by omega) w (sl_one' hn9) (Sl.mono (hS.le (.inr (by simp))) hs9) (Sl.mono (hS.le (.inr (by simp))) hb99) (own_slA (hS.own _ (List.mem_of_getElem? (i := 0) rfl)).1 hk16 hkl.symm hkb))) ?_
    clear hF hS; rintro v6 _ _ a w ⟨_, _, rfl, rfl, ⟨zM, hzM, rfl, rfl⟩⟩ hF hS
    replace hS : St _ [_, _, _] [_, _, _] _ := hS
    refine wpl_sq hF hS (sq rfl (q_assign rfl) <|
      sq_end) ?_
    clear hF hS; intro a w hF hS
    refine wpList_nil ?_
    replace hS := hS.dupz (z := zM) (by simp)
    replace hS := hS.keep (sQ.n.k) sQ
    refine ⟨(v6, (Gu.mrk bs ks (t.tdiv 4) is.length), zM), ?_, hF.sub ⟨rfl, rfl, rfl, rfl, rfl, rfl, rfl, rfl, rfl, rfl, rfl, rfl, trivial⟩, ?_⟩
    ·exact hzM
    ·exact hS
   ·(try simp only [Bool.or_eq_true, Bool.and_eq_true, Bool.or_eq_false_iff, Bool.and_eq_false_iff, decide_eq_true_eq, decide_eq_false_iff_not, Bool.not_eq_true', Bool.not_eq_false'] at hc2)
    refine wp_skip ?_
    replace hS := hS.dupz (z := zE) (by simp)
    refine ⟨(v5, (Gu.eac bs m (min is.length bs.length)), zE), ?_, hF.sub ⟨rfl, rfl, rfl, rfl, rfl, rfl, rfl, rfl, rfl, rfl, rfl, rfl, trivial⟩, ?_⟩
    ·exact hzE
    ·exact hS
  clear hF hS; rintro ⟨vJ, M, zJ⟩ a w hfact hF hS
  subst hhs0; (try dsimp only at hfact); (try dsimp only at hF); (try dsimp only at hS)
  have hzJ := hfact
  replace hS : St _ [_, _, _] [_, _, _] _ := hS
  refine wp_seq_k ?_; intro K12 hK12
  refine regl ?_
  refine wpl_sq hF hS (sq rfl (q_ld_blkW ty29 1 rfl rfl bQ rfl) <|
    sq rfl (q_call fn14 rfl (fun w hS => own_ct _ _ _ _ _ w (sl_one' hn9) (Sl.mono (hS.le (.inr (by simp))) hs9) (Sl.mono (hS.le (.inr (by simp))) hb99)) (fun _ _ _ h => h)) <|
    sq rfl (q_move rfl) <|
    sq rfl (q_move rfl) <|
    sq_end) ?_
  clear hF hS; intro a w hF hS
  refine wpl_ef hF hS rfl (ef_call fn37 rfl (fun w hS => prove_ct _ _ _ _ _ _ _ _ _ (by first | with_reducible assumption | omega) w (sl_one' hn9) (Sl.mono (hS.le (.inr (by simp))) hs9) (Sl.mono (hS.le (.inr (by simp))) hb99) (own_slA (hS.own _ (List.mem_of_getElem? (i := 0) rfl)).1 hk16 hkl.symm hkb) (Sl.mono (hS.le (.inr (by simp))) hzJ))) ?_
  clear hF hS; rintro _ _ _ a w ⟨_, _, rfl, rfl, ⟨sP, fP, bP, zP, rfl, hsP, hfP, hbP, rfl, rfl⟩⟩ hF hS
  replace hS : St _ [_, _, _, _] [_, _, _] _ := hS
  refine wpl_sq hF hS (sq rfl (q_move rfl) <|
    sq rfl (q_extract rfl rfl) <|
    sq rfl (q_extract rfl rfl) <|
    sq_end) ?_
  clear hF hS; intro a w hF hS
  refine wpl_ef hF hS rfl (ef_allocA ty61) ?_
  clear hF hS; rintro _ _ _ a w ⟨b8, rfl, rfl, rfl⟩ hF hS
  refine wpl_ef hF hS rfl (ef_storeW ty61 0 rfl rfl rfl rfl bQ (oc_cons (sl_one' hsP) (oc_cons (sl_one' hfP) (oc_cons (sl_one' hbP) oc_nil))) bQ) ?_
  clear hF hS; rintro _ _ _ a w ⟨rfl, rfl, rfl⟩ hF hS
  replace hS : St _ [_, _, _, _] [_, _, _, _] _ := hS
  refine wpl_sq hF hS (sq rfl (q_assign rfl) <|
    sq_end) ?_
  clear hF hS; intro a w hF hS
  refine wpList_nil ?_
  refine hK12 _ _ ?_
  clear hK12
  refine wp_seq_k ?_; intro K13 hK13
  refine regl ?_
  refine wpl_sq hF hS (sq rfl (q_ld_blkW ty29 2 rfl rfl bQ rfl) <|
    sq rfl (q_move rfl) <|
    sq rfl (q_move rfl) <|
    sq_end) ?_
  clear hF hS; intro a w hF hS
  refine wpl_ef hF hS rfl (ef_call fn38 rfl (fun w hS => rprove_ct _ _ _ _ _ _ _ _ _ (by first | with_reducible assumption | omega) w (sl_one' hn9) (Sl.mono (hS.le (.inr (by simp))) hs9) (Sl.mono (hS.le (.inr (by simp))) hb99) (own_slA (hS.own _ (List.mem_of_getElem? (i := 1) rfl)).1 hk16 hkl.symm hkb) (Sl.mono (hS.le (.inr (by simp))) hzJ))) ?_
  clear hF hS; rintro _ _ _ a w ⟨_, _, rfl, rfl, ⟨sU, fU, bU, zU, rfl, hsU, hfU, hbU, rfl, rfl⟩⟩ hF hS
  replace hS : St _ [_, _, _, _, _] [_, _, _, _] _ := hS
  refine wpl_sq hF hS (sq rfl (q_move rfl) <|
    sq rfl (q_extract rfl rfl) <|
    sq rfl (q_extract rfl rfl) <|
    sq_end) ?_
  clear hF hS; intro a w hF hS
  refine wpl_ef hF hS rfl (ef_allocA ty67) ?_
  clear hF hS; rintro _ _ _ a w ⟨b10, rfl, rfl, rfl⟩ hF hS
  refine wpl_ef hF hS rfl (ef_storeW ty67 0 rfl rfl rfl rfl bQ (oc_cons (sl_one' hsU) (oc_cons (sl_one' hfU) (oc_cons (sl_one' hbU) oc_nil))) bQ) ?_
  clear hF hS; rintro _ _ _ a w ⟨rfl, rfl, rfl⟩ hF hS
  replace hS : St _ [_, _, _, _, _] [_, _, _, _, _] _ := hS
  refine wpl_sq hF hS (sq rfl (q_assign rfl) <|
    sq_end) ?_
  clear hF hS; intro a w hF hS
  refine wpList_nil ?_
  obtain ⟨X, hX⟩ : ∃ X, X = Gu.pv is bs ks M := ⟨_, rfl⟩
  have hpl := Gu.pv_len is bs ks M hkl
  rw [← hX] at hsP hfP hbP hsU hfU hbU hF hpl
  refine hK13 _ _ ?_
  clear hK13
  refine wp_seq_k ?_; intro K14 hK14
  refine regl ?_
  refine wpl_sq hF hS (sq rfl (q_ld_blkW ty29 3 rfl rfl bQ rfl) <|
    sq rfl (q_call fn14 rfl (fun w hS => own_ct _ _ _ _ _ w (sl_one' hn9) (Sl.mono (hS.le (.inr (by simp))) hs9) (Sl.mono (hS.le (.inr (by simp))) hb99)) (fun _ _ _ h => h)) <|
    sq rfl (q_move rfl) <|
    sq rfl (q_build rfl (run_build_arr ty71 ty5 rfl)) <|
    sq_end) ?_
  clear hF hS; intro a w hF hS
  refine wpl_ef hF hS rfl (ef_bsliceW ty62 ty71 rfl bQ (by decide) oQ (by decide) (by decide)) ?_
  clear hF hS; rintro v11 _ _ a w ⟨rfl, rfl⟩ hF hS
  replace hS : St _ [_, _, _, _, _] [_, _, _, _, _, _] _ := hS
  refine wpl_ef hF hS rfl (ef_append_keep ty62 ty71 3 rfl rfl rfl (src_row ty62 (k := 0) rfl oQ) bQ rfl (by decide)) ?_
  clear hF hS; rintro _ _ _ a w ⟨adX, ccX, rfl, rfl, rfl⟩ hF hS
  replace hS : St _ [_, _, _, _, _] [_, _, _, _, _, _] _ := hS
  refine wpl_sq hF hS (sq rfl (q_move rfl) <|
    sq_end) ?_
  clear hF hS; intro a w hF hS
  refine wpl_ef hF hS rfl (ef_call fn37 rfl (fun w hS => proveN_ct _ _ _ _ _ _ _ _ _ _ (by omega) (by omega) w (sl_one' hn9) (Sl.mono (hS.le (.inr (by simp))) hs9) (Sl.mono (hS.le (.inr (by simp))) hb99) (Sl.mono (hS.le (.inr (by simp))) hzJ))) ?_
  clear hF hS; rintro _ _ _ a w ⟨_, _, rfl, rfl, ⟨sX, fX, bX, zX, rfl, hsX, hfX, hbX, rfl, rfl⟩⟩ hF hS
  replace hS : St _ [_, _, _, _, _, _] [_, _, _, _, _, _] _ := hS
  refine wpl_sq hF hS (sq rfl (q_move rfl) <|
    sq rfl (q_extract rfl rfl) <|
    sq rfl (q_extract rfl rfl) <|
    sq_end) ?_
  clear hF hS; intro a w hF hS
  refine wpl_ef hF hS rfl (ef_allocA ty61) ?_
  clear hF hS; rintro _ _ _ a w ⟨b14, rfl, rfl, rfl⟩ hF hS
  refine wpl_ef hF hS rfl (ef_storeW ty61 0 rfl rfl rfl rfl bQ (oc_cons (sl_one' hsX) (oc_cons (sl_one' hfX) (oc_cons (sl_one' hbX) oc_nil))) bQ) ?_
  clear hF hS; rintro _ _ _ a w ⟨rfl, rfl, rfl⟩ hF hS
  replace hS : St _ [_, _, _, _, _, _] [_, _, _, _, _, _, _] _ := hS
  refine wpl_sq hF hS (sq rfl (q_assign rfl) <|
    sq_end) ?_
  clear hF hS; intro a w hF hS
  refine wpList_nil ?_
  refine hK14 _ _ ?_
  clear hK14
  refine wp_seq_k ?_; intro K15 hK15
  revert hF hS; apply regJ (J := J8 (α0 := Value) (α1 := Option Addr) (α2 := Nat) (α3 := Value) (α4 := Value) (α5 := Value) (α6 := PH) (α7 := Nat) 204 _ _ _ _ _) #[false, false, false, false, false, false, false, false, false, false, false, false, false] 13 mixed rfl rfl
  ·intro w hF hS
   refine goW_take 0 _ rfl kQ rfl hF (hS.keep sQ (zQ.k.n.n.n.n.n)) (q_ld_blkW ty29 0 rfl rfl bQ rfl) ?_
   clear hF; intro a hF
   refine goW_take 1 _ rfl kQ rfl hF (hS.keep sQ zQ) (q_move rfl) ?_
   clear hF; intro a hF
   refine goW_take 2 _ rfl kQ rfl hF (hS.keep sQ zQ) (q_build rfl (run_build_arr ty71 ty5 rfl)) ?_
   clear hF; intro a hF
   refine goW_take 5 _ rfl kQ rfl hF (hS.keep sQ zQ) (q_move rfl) ?_
   clear hF; intro a hF
   refine goW_fork [3, 10] kQ rfl ⟨?_, ?_, trivial⟩
   ·refine stepW_ef _ rfl rfl hF hS rfl (ef_bsliceW ty62 ty71 rfl bQ (by decide) oQ (by decide) (by decide)) ?_
    clear hF hS; rintro v_13_3 _ _ a w ⟨rfl, rfl⟩ hF hS
    refine ⟨⟨.inr (hS.keep sQ zQ), iQ, .inr (hS.keep sQ zQ), .inr (hS.keep sQ (zQ.k.n.n.n.n.n.n)), trivial⟩, ?_⟩
    refine goW_fork [4, 10] kQ rfl ⟨?_, ?_, trivial⟩
    ·refine stepW_ef _ rfl rfl hF hS rfl (ef_append_keep ty62 ty71 5 rfl rfl rfl (src_row ty62 (k := 0) rfl oQ) bQ rfl (by decide)) ?_
     clear hF hS; rintro _ _ _ a w ⟨adY, ccY, rfl, rfl, rfl⟩ hF hS
     refine ⟨⟨.inr (hS.keep sQ zQ), iQ, iQ, .inr (hS.keep sQ (zQ.k.n.n.n.n.n.n)), trivial⟩, ?_⟩
     refine goW_fork [6, 10] kQ rfl ⟨?_, ?_, trivial⟩
     ·refine stepW_ef _ rfl rfl hF hS rfl (ef_call fn38 rfl (fun w hS => rproveN_ct _ _ _ _ _ _ _ _ _ _ (by omega) (by omega) w (sl_one' hn9) (Sl.mono (hS.le (.inr (by simp))) hs9) (Sl.mono (hS.le (.inr (by simp))) hb99) (Sl.mono (hS.le (.inr (by simp))) hzJ))) ?_
      clear hF hS; rintro _ _ _ a w ⟨_, _, rfl, rfl, ⟨sY, fY, bY, zY, rfl, hsY, hfY, hbY, rfl, rfl⟩⟩ hF hS
      refine ⟨⟨iQ, iQ, iQ, iQ, trivial⟩, ?_⟩
      refine goW_take 7 _ rfl kQ rfl hF (hS.keep sQ zQ) (q_move rfl) ?_
      clear hF; intro a hF
      refine goW_take 8 _ rfl kQ rfl hF (hS.keep sQ zQ) (q_extract rfl rfl) ?_
      clear hF; intro a hF
      refine goW_take 9 _ rfl kQ rfl hF (hS.keep sQ zQ) (q_extract rfl rfl) ?_
      clear hF; intro a hF
      refine gQ 10 rfl rfl hF hS rfl (ef_allocA ty67) ?_
      clear hF hS; rintro _ _ _ a w ⟨b_13_10, rfl, rfl, rfl⟩ hF hS
      refine ⟨⟨.inr (hS.keep sQ zQ), .inr (hS.keep sQ zQ), .inr (hS.keep sQ zQ), iQ, iQ, iQ, iQ, trivial⟩, ?_⟩
      refine gQ 11 rfl rfl hF hS rfl (ef_storeW ty67 0 rfl rfl rfl rfl bQ (oc_cons (sl_one' hsY) (oc_cons (sl_one' hfY) (oc_cons (sl_one' hbY) oc_nil))) bQ) ?_
      clear hF hS; rintro _ _ _ a w ⟨rfl, rfl, rfl⟩ hF hS
      refine ⟨⟨.inr (hS.keep sQ zQ), iQ, iQ, iQ, iQ, iQ, iQ, trivial⟩, ?_⟩
      refine goW_take 12 _ rfl kQ rfl hF (hS.keep sQ zQ) (q_assign rfl) ?_
      clear hF; intro a hF
      exact goW_done kQ (j8_mk v_13_3 adY ccY sY fY bY zY b_13_10 ((And.intro hsY (And.intro hfY (And.intro hbY trivial)))) (hF.sub (L' := [(1, _), (2, _), (3, _), (4, _), (5, _), (6, _), (15, _), (17, _), (18, _), (19, _), (20, _), (22, _), (23, _), (24, _), (25, _), (27, _), (29, _)]) ⟨rfl, rfl, rfl, rfl, rfl, rfl, rfl, rfl, rfl, rfl, rfl, rfl, rfl, rfl, rfl, rfl, rfl, trivial⟩) hS)
     ·refine stepW_ef _ rfl rfl hF hS rfl (ef_allocA ty67) ?_
      clear hF hS; rintro _ _ _ a w ⟨b_13_10, rfl, rfl, rfl⟩ hF hS
      refine ⟨⟨.inr (hS.keep sQ zQ), iQ, iQ, .inr (hS.keep sQ (zQ.k.n.n.n.n.n.n.n)), trivial⟩, ?_⟩
      refine gQ 6 rfl rfl hF hS rfl (ef_call fn38 rfl (fun w hS => rproveN_ct _ _ _ _ _ _ _ _ _ _ (by omega) (by omega) w (sl_one' hn9) (Sl.mono (hS.le (.inr (by simp))) hs9) (Sl.mono (hS.le (.inr (by simp))) hb99) (Sl.mono (hS.le (.inr (by simp))) hzJ))) ?_
      clear hF hS; rintro _ _ _ a w ⟨_, _, rfl, rfl, ⟨sY, fY, bY, zY, rfl, hsY, hfY, hbY, rfl, rfl⟩⟩ hF hS
      refine ⟨⟨iQ, iQ, iQ, iQ, trivial⟩, ?_⟩
      refine goW_take 7 _ rfl kQ rfl hF (hS.keep sQ zQ) (q_move rfl) ?_
      clear hF; intro a hF
      refine goW_take 8 _ rfl kQ rfl hF (hS.keep sQ zQ) (q_extract rfl rfl) ?_
      clear hF; intro a hF
      refine goW_take 9 _ rfl kQ rfl hF (hS.keep sQ zQ) (q_extract rfl rfl) ?_
      clear hF; intro a hF
      refine gQ 11 rfl rfl hF hS rfl (ef_storeW ty67 0 rfl rfl rfl rfl bQ (oc_cons (sl_one' hsY) (oc_cons (sl_one' hfY) (oc_cons (sl_one' hbY) oc_nil))) bQ) ?_
      clear hF hS; rintro _ _ _ a w ⟨rfl, rfl, rfl⟩ hF hS
      refine ⟨⟨.inr (hS.keep sQ zQ), iQ, iQ, iQ, iQ, iQ, iQ, trivial⟩, ?_⟩
      refine goW_take 12 _ rfl kQ rfl hF (hS.keep sQ zQ) (q_assign rfl) ?_
      clear hF; intro a hF
      exact goW_done kQ (j8_mk v_13_3 adY ccY sY fY bY zY b_13_10 ((And.intro hsY (And.intro hfY (And.intro hbY trivial)))) (hF.sub (L' := [(1, _), (2, _), (3, _), (4, _), (5, _), (6, _), (15, _), (17, _), (18, _), (19, _), (20, _), (22, _), (23, _), (24, _), (25, _), (27, _), (29, _)]) ⟨rfl, rfl, rfl, rfl, rfl, rfl, rfl, rfl, rfl, rfl, rfl, rfl, rfl, rfl, rfl, rfl, rfl, trivial⟩) hS)
    ·refine stepW_ef _ rfl rfl hF hS rfl (ef_allocA ty67) ?_
     clear hF hS; rintro _ _ _ a w ⟨b_13_10, rfl, rfl, rfl⟩ hF hS
     refine ⟨⟨.inr (hS.keep sQ zQ), iQ, .inr (hS.keep sQ zQ), .inr (hS.keep sQ (zQ.k.n.n.n.n.n.n.n)), trivial⟩, ?_⟩
     refine gQ 4 rfl rfl hF hS rfl (ef_append_keep ty62 ty71 6 rfl rfl rfl (src_row ty62 (k := 1) rfl oQ) bQ rfl (by decide)) ?_
     clear hF hS; rintro _ _ _ a w ⟨adY, ccY, rfl, rfl, rfl⟩ hF hS
     refine ⟨⟨.inr (hS.keep sQ zQ), iQ, iQ, .inr (hS.keep sQ (zQ.k.n.n.n.n.n.n.n)), trivial⟩, ?_⟩
     refine gQ 6 rfl rfl hF hS rfl (ef_call fn38 rfl (fun w hS => rproveN_ct _ _ _ _ _ _ _ _ _ _ (by omega) (by omega) w (sl_one' hn9) (Sl.mono (hS.le (.inr (by simp))) hs9) (Sl.mono (hS.le (.inr (by simp))) hb99) (Sl.mono (hS.le (.inr (by simp))) hzJ))) ?_
     clear hF hS; rintro _ _ _ a w ⟨_, _, rfl, rfl, ⟨sY, fY, bY, zY, rfl, hsY, hfY, hbY, rfl, rfl⟩⟩ hF hS
     refine ⟨⟨iQ, iQ, iQ, iQ, trivial⟩, ?_⟩
     refine goW_take 7 _ rfl kQ rfl hF (hS.keep sQ zQ) (q_move rfl) ?_
     clear hF; intro a hF
     refine goW_take 8 _ rfl kQ rfl hF (hS.keep sQ zQ) (q_extract rfl rfl) ?_
     clear hF; intro a hF
     refine goW_take 9 _ rfl kQ rfl hF (hS.keep sQ zQ) (q_extract rfl rfl) ?_
     clear hF; intro a hF
     refine gQ 11 rfl rfl hF hS rfl (ef_storeW ty67 0 rfl rfl rfl rfl bQ (oc_cons (sl_one' hsY) (oc_cons (sl_one' hfY) (oc_cons (sl_one' hbY) oc_nil))) bQ) ?_
     clear hF hS; rintro _ _ _ a w ⟨rfl, rfl, rfl⟩ hF hS
     refine ⟨⟨.inr (hS.keep sQ zQ), iQ, iQ, iQ, iQ, iQ, iQ, trivial⟩, ?_⟩
     refine goW_take 12 _ rfl kQ rfl hF (hS.keep sQ zQ) (q_assign rfl) ?_
     clear hF; intro a hF
     exact goW_done kQ (j8_mk v_13_3 adY ccY sY fY bY zY b_13_10 ((And.intro hsY (And.intro hfY (And.intro hbY trivial)))) (hF.sub (L' := [(1, _), (2, _), (3, _), (4, _), (5, _), (6, _), (15, _), (17, _), (18, _), (19, _), (20, _), (22, _), (23, _), (24, _), (25, _), (27, _), (29, _)]) ⟨rfl, rfl, rfl, rfl, rfl, rfl, rfl, rfl, rfl, rfl, rfl, rfl, rfl, rfl, rfl, rfl, rfl, trivial⟩) hS)
   ·refine stepW_ef _ rfl rfl hF hS rfl (ef_allocA ty67) ?_
    clear hF hS; rintro _ _ _ a w ⟨b_13_10, rfl, rfl, rfl⟩ hF hS
    refine ⟨⟨.inr (hS.keep sQ zQ), .inr (hS.keep sQ zQ), .inr (hS.keep sQ zQ), .inr (hS.keep sQ (zQ.k.n.n.n.n.n.n)), trivial⟩, ?_⟩
    refine gQ 3 rfl rfl hF hS rfl (ef_bsliceW ty62 ty71 rfl bQ (by decide) oQ (by decide) (by decide)) ?_
    clear hF hS; rintro v_13_3 _ _ a w ⟨rfl, rfl⟩ hF hS
    refine ⟨⟨.inr (hS.keep sQ zQ), iQ, .inr (hS.keep sQ zQ), .inr (hS.keep sQ (zQ.k.n.n.n.n.n.n.n)), trivial⟩, ?_⟩
    refine gQ 4 rfl rfl hF hS rfl (ef_append_keep ty62 ty71 6 rfl rfl rfl (src_row ty62 (k := 0) rfl oQ) bQ rfl (by decide)) ?_
    clear hF hS; rintro _ _ _ a w ⟨adY, ccY, rfl, rfl, rfl⟩ hF hS
    refine ⟨⟨.inr (hS.keep sQ zQ), iQ, iQ, .inr (hS.keep sQ (zQ.k.n.n.n.n.n.n.n)), trivial⟩, ?_⟩
    refine gQ 6 rfl rfl hF hS rfl (ef_call fn38 rfl (fun w hS => rproveN_ct _ _ _ _ _ _ _ _ _ _ (by omega) (by omega) w (sl_one' hn9) (Sl.mono (hS.le (.inr (by simp))) hs9) (Sl.mono (hS.le (.inr (by simp))) hb99) (Sl.mono (hS.le (.inr (by simp))) hzJ))) ?_
    clear hF hS; rintro _ _ _ a w ⟨_, _, rfl, rfl, ⟨sY, fY, bY, zY, rfl, hsY, hfY, hbY, rfl, rfl⟩⟩ hF hS
    refine ⟨⟨iQ, iQ, iQ, iQ, trivial⟩, ?_⟩
    refine goW_take 7 _ rfl kQ rfl hF (hS.keep sQ zQ) (q_move rfl) ?_
    clear hF; intro a hF
    refine goW_take 8 _ rfl kQ rfl hF (hS.keep sQ zQ) (q_extract rfl rfl) ?_
    clear hF; intro a hF
    refine goW_take 9 _ rfl kQ rfl hF (hS.keep sQ zQ) (q_extract rfl rfl) ?_
    clear hF; intro a hF
    refine gQ 11 rfl rfl hF hS rfl (ef_storeW ty67 1 rfl rfl rfl rfl bQ (oc_cons (sl_one' hsY) (oc_cons (sl_one' hfY) (oc_cons (sl_one' hbY) oc_nil))) bQ) ?_
    clear hF hS; rintro _ _ _ a w ⟨rfl, rfl, rfl⟩ hF hS
    refine ⟨⟨.inr (hS.keep sQ zQ), iQ, iQ, iQ, iQ, iQ, iQ, trivial⟩, ?_⟩
    refine goW_take 12 _ rfl kQ rfl hF (hS.keep sQ zQ) (q_assign rfl) ?_
    clear hF; intro a hF
    exact goW_done kQ (j8_mk v_13_3 adY ccY sY fY bY zY b_13_10 ((And.intro hsY (And.intro hfY (And.intro hbY trivial)))) (hF.sub (L' := [(1, _), (2, _), (3, _), (4, _), (5, _), (6, _), (15, _), (17, _), (18, _), (19, _), (20, _), (22, _), (23, _), (24, _), (25, _), (27, _), (29, _)]) ⟨rfl, rfl, rfl, rfl, rfl, rfl, rfl, rfl, rfl, rfl, rfl, rfl, rfl, rfl, rfl, rfl, rfl, trivial⟩) (hS.perm (.swap _ _ _)))
  rintro a w ⟨v_13_3, adY, ccY, sY, fY, bY, zY, b_13_10, ⟨hsY, hfY, hbY, -⟩, hF, hS⟩
  (try dsimp only at hF); (try dsimp only at hS)
  replace hS := hS.perm (.cons _ (.cons _ (.cons _ (.cons _ (.cons _ (.swap _ _ _))))))
  replace hS := hS.perm (.cons _ (.cons _ (.cons _ (.cons _ (.swap _ _ _)))))
  replace hS := hS.perm (.cons _ (.cons _ (.cons _ (.swap _ _ _))))
  replace hS := hS.perm (.cons _ (.cons _ (.swap _ _ _)))
  replace hS := hS.perm (.cons _ (.swap _ _ _))
  replace hS := hS.perm (.swap _ _ _)
  obtain ⟨z15, hz16, hS⟩ := hS.freezeA (m := 16) hkl.symm hkb hk16
  replace hS : St _ [_, _, _, _, _, _, _, _] [_, _, _, _, _, _, _, _] _ := hS
  refine hK15 _ _ ?_
  clear hK15
  refine wp_seq_k ?_; intro K16 hK16
  refine wp_seq_k ?_; intro K17 hK17
  refine regd mixed kQ hF hS (sq rfl (q_move rfl) <|
    sq rfl (q_move rfl) <|
    sq rfl (q_nf (q_nei rfl rfl) (rfl)) <|
    sq rfl (q_move rfl) <|
    sq_go 113 rfl rfl rfl (q_move rfl) <|
    sq_go 113 rfl rfl rfl (q_move rfl) <|
    sq_go 113 rfl rfl rfl (q_nf (q_nei rfl rfl) (rfl)) <|
    sq rfl (q_pick_f rfl rfl) <|
    sq rfl (q_move rfl) <|
    sq_go 118 rfl rfl rfl (q_ld_blkW ty61 5 rfl rfl bQ rfl) <|
    sq_go 118 rfl rfl rfl (q_call fn40 rfl (fun w hS => model_ct _ _ _ _ _ _ w (Sl.mono (hS.le (.inr (by simp))) hsP) (Sl.mono (hS.le (.inr (by simp))) hfP) (Sl.mono (hS.le (.inr (by simp))) hbP)) (fun _ _ _ h => h)) <|
    sq_go 118 rfl rfl rfl (q_ld_blkW ty67 4 rfl rfl bQ rfl) <|
    sq_go 118 rfl rfl rfl (q_dt (q_call fn39 rfl (fun w hS => sameP_ct _ _ _ _ _ _ _ _ _ _ _ _ w (Sl.mono (hS.le (.inr (by simp))) hsP) (Sl.mono (hS.le (.inr (by simp))) hfP) (Sl.mono (hS.le (.inr (by simp))) hbP) (Sl.mono (hS.le (.inr (by simp))) hsU) (Sl.mono (hS.le (.inr (by simp))) hfU) (Sl.mono (hS.le (.inr (by simp))) hbU)) (fun _ _ _ h => h)) (⟨⟨rfl, rfl⟩, rfl⟩)) <|
    sq_go 118 rfl rfl rfl (q_not rfl) <|
    sq rfl (q_pick_f rfl rfl) <|
    sq_end) ?_
  clear hF hS; intro a w hF hS
  refine hK17 _ _ ?_
  clear hK17
  refine wp_if hF rfl (fun h => absurd h (by simp)) (fun _ => ?_)
  refine wp_skip ?_
  refine hK16 _ _ ?_
  clear hK16
  refine wp_seq_k ?_; intro K18 hK18
  refine regl ?_
  refine wpl_sq hF hS (sq rfl (q_ld_blkW ty67 4 rfl rfl bQ rfl) <|
    sq rfl (q_move rfl) <|
    sq rfl (q_move rfl) <|
    sq_end) ?_
  clear hF hS; intro a w hF hS
  refine wpl_ef hF hS rfl (ef_call fn41 rfl (fun w hS => bent_ct _ _ _ _ _ _ _ _ (by omega) (by omega) (by omega) w (Sl.mono (hS.le (.inr (by simp))) hsU) (Sl.mono (hS.le (.inr (by simp))) hfU) (Sl.mono (hS.le (.inr (by simp))) hbU))) ?_
  clear hF hS; rintro _ _ _ a w ⟨_, _, rfl, rfl, ⟨sO, fO, bO, zO, rfl, hsO, hfO, hbO, rfl, rfl⟩⟩ hF hS
  replace hS : St _ [_, _, _, _, _, _, _, _, _] [_, _, _, _, _, _, _, _] _ := hS
  refine wpl_ef hF hS rfl (ef_allocA ty67) ?_
  clear hF hS; rintro _ _ _ a w ⟨b18, rfl, rfl, rfl⟩ hF hS
  refine wpl_ef hF hS rfl (ef_storeW ty67 0 rfl rfl rfl rfl bQ (oc_cons (sl_one' hsO) (oc_cons (sl_one' hfO) (oc_cons (sl_one' hbO) oc_nil))) bQ) ?_
  clear hF hS; rintro _ _ _ a w ⟨rfl, rfl, rfl⟩ hF hS
  replace hS : St _ [_, _, _, _, _, _, _, _, _] [_, _, _, _, _, _, _, _, _] _ := hS
  refine wpList_nil ?_
  have hbl := Gu.bent_len X.1 X.2.1 X.2.2.1 h b
  refine hK18 _ _ ?_
  clear hK18
  refine wp_seq_k ?_; intro K19 hK19
  revert hF hS; apply regJ (J := J5 (α0 := Value) (α1 := Value) (α2 := Value) (α3 := PH) (α4 := Value) 204 _ _ _ _ _) #[false, false, false, false, false, false, false, false, false, false] 10 mixed rfl rfl
  ·intro w hF hS
   refine goW_take 0 _ rfl kQ rfl hF (hS.keep sQ (zQ.k.n.n.n.n.n)) (q_ld_blkW ty67 0 rfl rfl bQ rfl) ?_
   clear hF; intro a hF
   refine goW_take 1 _ rfl kQ rfl hF (hS.keep sQ (zQ.k)) (q_ld_blkW ty67 0 rfl rfl bQ rfl) ?_
   clear hF; intro a hF
   refine goW_take 2 _ rfl kQ rfl hF (hS.keep sQ (zQ.k)) (q_ld_blkW ty67 0 rfl rfl bQ rfl) ?_
   clear hF; intro a hF
   refine goW_take 3 _ rfl kQ rfl hF (hS.keep sQ zQ) (q_move rfl) ?_
   clear hF; intro a hF
   refine goW_take 4 _ rfl kQ rfl hF (hS.keep sQ zQ) (q_move rfl) ?_
   clear hF; intro a hF
   refine goW_take 6 _ rfl kQ rfl hF (hS.keep sQ (sQ.n.n.n.n.n.n.n.n)) (q_ld_blkW ty61 0 rfl rfl bQ rfl) ?_
   clear hF; intro a hF
   refine gQ 5 rfl rfl hF hS rfl (ef_call fn41 rfl (fun w hS => bent_ct _ _ _ _ _ _ _ _ (by omega) (by omega) (by omega) w (Sl.mono (hS.le (.inr (by simp))) hsO) (Sl.mono (hS.le (.inr (by simp))) hfO) (Sl.mono (hS.le (.inr (by simp))) hbO))) ?_
   clear hF hS; rintro _ _ _ a w ⟨_, _, rfl, rfl, ⟨sW, fW, bW, zW, rfl, hsW, hfW, hbW, rfl, rfl⟩⟩ hF hS
   refine ⟨⟨.inr (hS.keep (sQ.n) (sQ.n.n.n.n.n.n.n.n)), iQ, iQ, iQ, .inr (hS.keep (sQ.n) (zQ.k)), .inr (hS.keep (sQ.n) (zQ.k.n.n.n.n.n)), trivial⟩, ?_⟩
   refine gQ 7 rfl rfl hF hS rfl (ef_qt (q_call fn40 rfl (fun w hS => model_ct _ _ _ _ _ _ w (Sl.mono (hS.le zin0) hra) (Sl.mono (hS.le zin0) hrb) (Sl.mono (hS.le zin0) hrc)) (fun _ _ _ h => h))) ?_
   clear hF hS; rintro _ _ _ a w ⟨rfl, rfl, rfl⟩ hF hS
   refine ⟨⟨iQ, iQ, iQ, iQ, .inr (hS.keep (sQ.n) (zQ.k)), .inr (hS.keep (sQ.n) (zQ.k.n.n.n.n.n)), trivial⟩, ?_⟩
   refine gQ 8 rfl rfl hF hS rfl (ef_bsliceC ty75 ty67 [[_, _, _], [_, _, _], [_, _, _], [_, _, _]] rfl rfl (by simp) (oc2_cons (oc_cons (sl_one' hsU) (oc_cons (sl_one' hfU) (oc_cons (sl_one' hbU) oc_nil))) (oc2_cons (oc_cons (sl_one' hsO) (oc_cons (sl_one' hfO) (oc_cons (sl_one' hbO) oc_nil))) (oc2_cons (oc_cons (sl_one' hsW) (oc_cons (sl_one' hfW) (oc_cons (sl_one' hbW) oc_nil))) (oc2_cons (oc_cons (sl_one' hra) (oc_cons (sl_one' hrb) (oc_cons (sl_one' hrc) oc_nil))) oc2_nil)))) (by decide) rfl rfl) ?_
   clear hF hS; rintro v_17_8 _ _ a w ⟨rfl, rfl⟩ hF hS
   refine ⟨⟨iQ, iQ, iQ, iQ, iQ, iQ, trivial⟩, ?_⟩
   refine goW_take 9 _ rfl kQ rfl hF (hS.keep sQ zQ) (q_assign rfl) ?_
   clear hF; intro a hF
   exact goW_done kQ (j5_mk sW fW bW zW v_17_8 ((And.intro hsW (And.intro hfW (And.intro hbW trivial)))) (hF.sub (L' := [(1, _), (2, _), (3, _), (4, _), (5, _), (6, _), (15, _), (17, _), (18, _), (19, _), (20, _), (24, _), (31, _)]) ⟨rfl, rfl, rfl, rfl, rfl, rfl, rfl, rfl, rfl, rfl, rfl, rfl, rfl, trivial⟩) hS)
  rintro a w ⟨sW, fW, bW, zW, v_17_8, ⟨hsW, hfW, hbW, -⟩, hF, hS⟩
  (try dsimp only at hF); (try dsimp only at hS)
  refine hK19 _ _ ?_
  clear hK19
  refine wp_seq_k ?_; intro K20 hK20
  refine regl ?_
  refine wpl_sq hF hS (sq rfl (q_fieldAddr ty67 rfl rfl (s' := 0) kQ) <|
    sq rfl (q_ld_blk1 ty22 6 rfl rfl rfl rfl) <|
    sq rfl (q_fieldAddr ty67 rfl rfl (s' := 0) kQ) <|
    sq rfl (q_ld_blk1 ty23 6 rfl rfl rfl rfl) <|
    sq_end) ?_
  clear hF hS; intro a w hF hS
  refine wpl_ef hF hS rfl (ef_call fn42 rfl (fun w hS => known_ct _ _ _ _ (by first | with_reducible assumption | omega) (by omega) w (Sl.mono (hS.le (.inr (by simp))) hfU) (Sl.mono (hS.le (.inr (by simp))) hbU))) ?_
  clear hF hS; rintro v19 _ _ a w ⟨_, _, rfl, rfl, ⟨zN, hzN, rfl, rfl⟩⟩ hF hS
  replace hS : St _ [_, _, _, _, _, _, _, _, _, _, _] [_, _, _, _, _, _, _, _, _, _] _ := hS
  refine wpl_sq hF hS (sq rfl (q_assign rfl) <|
    sq_end) ?_
  clear hF hS; intro a w hF hS
  refine wpList_nil ?_
  obtain ⟨K, hK⟩ : ∃ K, K = Gu.kn X.2.1 X.2.2.1 := ⟨_, rfl⟩
  have hkr : ∀ x ∈ K, -9223372036854775808 ≤ x ∧ x ≤ 9223372036854775807 := fun x hx => by have := Gu.kn_rng x (hK ▸ hx); omega
  have hKl : K.length = X.2.1.length := by rw [hK, Gu.kn_len]
  rw [← hK] at hzN
  refine hK20 _ _ ?_
  clear hK20
  refine wp_seq_k ?_; intro K21 hK21
  refine regl ?_
  refine wpl_ef hF hS rfl (ef_bslice0 ty22 ty3) ?_
  clear hF hS; rintro v20 _ _ a w ⟨rfl, rfl⟩ hF hS
  replace hS : St _ [_, _, _, _, _, _, _, _, _, _, _] [_, _, _, _, _, _, _, _, _, _, _] _ := hS
  refine wpl_sq hF hS (sq rfl (q_move rfl) <|
    sq_end) ?_
  clear hF hS; intro a w hF hS
  refine wpl_ef hF hS rfl (ef_append ty22 ty3 0 rfl rfl rfl (src_slV ty22 hzN (.inr (by simp))) bQ rfl (by decide)) ?_
  clear hF hS; rintro v22 _ _ a w ⟨rfl, rfl⟩ hF hS
  replace hS : St _ [_, _, _, _, _, _, _, _, _, _, _] [_, _, _, _, _, _, _, _, _, _, _] _ := hS
  refine wpl_sq hF hS (sq rfl (q_assign rfl) <|
    sq_end) ?_
  clear hF hS; intro a w hF hS
  refine wpList_nil ?_
  replace hS := hS.rowEq (Nat.zero_add _) (List.nil_append _)
  refine hK21 _ _ ?_
  clear hK21
  obtain ⟨hs0, hhs0, hS⟩ : ∃ h, h = _ ∧ St _ _ h _ := ⟨_, rfl, hS⟩
  refine wp_cutx (γ := List Int) (fun (W : List Int) => []) [(1, _), (2, _), (3, _), (4, _), (5, _), (6, _), (15, _), (17, _), (18, _), (19, _), (20, _), (31, _), (32, _), (33, _)] (fun (W : List Int) => (hs0.set 0 (.row v22 3 1 K.length (W.map vi)))) (fun (W : List Int) => W.length = K.length ∧ ∀ x ∈ W, -9223372036854775808 ≤ x ∧ x ≤ 9223372036854775807) (hF.sub ⟨rfl, rfl, rfl, rfl, rfl, rfl, rfl, rfl, rfl, rfl, rfl, rfl, rfl, rfl, trivial⟩) hS ?_ ?_
  ·subst hhs0
   refine wp_seq_k ?_; intro K22 hK22
   refine reg hF hS (sq rfl (q_move rfl) <|
     sq rfl (q_len_row ty22 0 rfl rfl) <|
     sq rfl (q_gti rfl rfl) <|
     sq_end) ?_
   clear hF hS; intro a w hF hS
   refine hK22 _ _ ?_
   clear hK22
   refine wp_ifd hF rfl (fun hc4 => ?_) (fun hc4 => ?_)
   ·have har := Gu.arnd_range (n := b) (m := (K.length : Int)) (by omega)
    have ha5 := Gu.arnd_range (n := t) (m := 5) (by decide)
    refine regl ?_
    refine wpl_sq hF hS (sq rfl (q_move rfl) <|
      sq rfl (q_move rfl) <|
      sq rfl (q_move rfl) <|
      sq rfl (q_len_row ty22 0 rfl rfl) <|
      sq rfl (q_call fn25 rfl (fun w hS => arnd_ct _ _ (by omega) (by omega) w ) (fun _ _ _ h => h)) <|
      sq rfl (q_move rfl) <|
      sq rfl (q_call fn25 rfl (fun w hS => arnd_ct _ _ (by omega) (by omega) w ) (fun _ _ _ h => h)) <|
      sq rfl (q_subi rfl rfl (by omega)) <|
      sq rfl (q_idx_row ty22 ty3 0 rfl rfl rfl (by omega)) <|
      sq_end) ?_
    clear hF hS; intro a w hF hS
    refine wpl_ef hF hS rfl (ef_st_row ty3 0 rfl rfl rfl (by omega) rfl) ?_
    clear hF hS; rintro _ _ _ a w ⟨rfl, rfl, rfl⟩ hF hS
    replace hS : St _ [_, _, _, _, _, _, _, _, _, _, _] [_, _, _, _, _, _, _, _, _, _, _] _ := hS
    refine wpList_nil ?_
    refine ⟨((K.set (Gu.arnd b K.length).toNat (Gu.arnd t 5 - 1))), ?_, hF.sub ⟨rfl, rfl, rfl, rfl, rfl, rfl, rfl, rfl, rfl, rfl, rfl, rfl, rfl, rfl, trivial⟩, ?_⟩
    ·exact ⟨by simp, Gu.rg_set hkr (by omega)⟩
    ·rw [List.map_set]; exact hS
   ·refine wp_skip ?_
    refine ⟨(K), ?_, hF.sub ⟨rfl, rfl, rfl, rfl, rfl, rfl, rfl, rfl, rfl, rfl, rfl, rfl, rfl, rfl, trivial⟩, ?_⟩
    ·exact ⟨rfl, hkr⟩
    ·exact hS
  clear hF hS; rintro W a w hfact hF hS
  subst hhs0; (try dsimp only at hfact); (try dsimp only at hF); (try dsimp only at hS)
  obtain ⟨hWl, hWr⟩ := hfact
  replace hS : St _ [_, _, _, _, _, _, _, _, _, _, _] [_, _, _, _, _, _, _, _, _, _, _] _ := hS
  obtain ⟨zW9, hzW, hS⟩ := St.freezeV (h0 := fun _ => rfl) (f := vi) (p := fun x => -9223372036854775808 ≤ x ∧ x ≤ 9223372036854775807) (xs := W) hS hWl.symm (by omega) hWr
  replace hS : St _ [_, _, _, _, _, _, _, _, _, _, _, _] [_, _, _, _, _, _, _, _, _, _] _ := hS
  refine wp_seq_k ?_; intro K23 hK23
  refine regl ?_
  refine wpl_sq hF hS (sq rfl (q_move rfl) <|
    sq rfl (q_move rfl) <|
    sq rfl (q_move rfl) <|
    sq rfl (q_move rfl) <|
    sq rfl (q_len_sl ty22 hq rfl) <|
    sq rfl (q_min rfl rfl) <|
    sq rfl (q_slsl_hi ty22 ty3 hq rfl rfl (by omega)) <|
    sq_end) ?_
  clear hF hS; intro a w hF hS
  refine wpl_ef hF hS rfl (ef_bsliceA ty43 ty22 rfl rfl (oc_cons (sl_one' hzN) (oc_cons (sl_one' hzW) (oc_cons (sl_one' (Sl.cut hq (by omega))) oc_nil))) (by decide) rfl rfl) ?_
  clear hF hS; rintro v23 _ _ a w ⟨rfl, rfl⟩ hF hS
  replace hS : St _ [_, _, _, _, _, _, _, _, _, _, _, _] [_, _, _, _, _, _, _, _, _, _, _] _ := hS
  refine wpl_sq hF hS (sq rfl (q_assign rfl) <|
    sq_end) ?_
  clear hF hS; intro a w hF hS
  refine wpList_nil ?_
  obtain ⟨zu, hzu, hS⟩ := hS.union
  replace hS : St _ [_, _, _, _, _, _, _, _, _, _, _, _, _] [_, _, _, _, _, _, _, _, _, _, _] _ := hS
  have hA9 := Sl.mono (hzu _ (by simp)) hzN
  have hB9 := Sl.mono (hzu _ (by simp)) hzW
  have hC9 := Sl.cut (lo := 0) (hi := (min (q.length : Int) 40).toNat) hq (by omega)
  have hsU9 := Sl.mono (hzu _ (by simp)) hsU
  have hfU9 := Sl.mono (hzu _ (by simp)) hfU
  have hbU9 := Sl.mono (hzu _ (by simp)) hbU
  have hsO9 := Sl.mono (hzu _ (by simp)) hsO
  have hfO9 := Sl.mono (hzu _ (by simp)) hfO
  have hbO9 := Sl.mono (hzu _ (by simp)) hbO
  have hsW9 := Sl.mono (hzu _ (by simp)) hsW
  have hfW9 := Sl.mono (hzu _ (by simp)) hfW
  have hbW9 := Sl.mono (hzu _ (by simp)) hbW
  refine hK23 _ _ ?_
  clear hK23
  refine wp_seq_k ?_; intro K24 hK24
  refine reg hF hS (sq rfl (q_assign rfl) <|
    sq_end) ?_
  clear hF hS; intro a w hF hS
  refine hK24 _ _ ?_
  clear hK24
  refine wp_block ?_
  obtain ⟨hs0, hhs0, hS⟩ : ∃ h, h = _ ∧ St _ _ h _ := ⟨_, rfl, hS⟩
  refine wp_loopx (γ := Int) (0) (fun (k : Int) => [(35, vi k)]) [(1, _), (2, _), (3, _), (4, _), (5, _), (6, _), (15, _), (17, _), (18, _), (19, _), (20, _), (31, _), (34, _)] (fun (k : Int) => hs0) (fun (k : Int) => 0 ≤ k ∧ k ≤ 4) (fun (k : Int) => (4 - k).toNat) (hF.sub ⟨rfl, rfl, rfl, rfl, rfl, rfl, rfl, rfl, rfl, rfl, rfl, rfl, rfl, rfl, trivial⟩) (by subst hhs0; exact hS) (by exact ⟨Int.le_refl _, by omega⟩) ?_
  clear hF hS; rintro k a w hfact hF hS
  subst hhs0; (try dsimp only at hfact); (try dsimp only at hF); (try dsimp only at hS)
  obtain ⟨hk0, hk1⟩ := hfact
  replace hS : St _ [_, _, _, _, _, _, _, _, _, _, _, _, _] [_, _, _, _, _, _, _, _, _, _, _] _ := hS
  refine wp_seq_k ?_; intro K25 hK25
  refine wp_seq_k ?_; intro K26 hK26
  refine reg hF hS (sq rfl (q_move rfl) <|
    sq rfl (q_move rfl) <|
    sq rfl (q_len_row ty75 1 rfl rfl) <|
    sq rfl (q_lti rfl rfl) <|
    sq_end) ?_
  clear hF hS; intro a w hF hS
  refine hK26 _ _ ?_
  clear hK26
  refine wp_ifd hF rfl (fun hc5 => ?_) (fun hc5 => ?_)
  ·obtain ⟨zV, sv9, fv9, bv9, S9, F9, B9, hZV, hcV, hsV, hfV, hbV⟩ := pickP hsU9 hfU9 hbU9 hsO9 hfO9 hbO9 hsW9 hfW9 hbW9 hra hrb hrc (k := k.toNat) (by omega)
   have hk5 : ∀ {a b c d : List Value}, k.toNat < [a, b, c, d].length := fun {a b c d} => by show k.toNat < 4; omega
   have hk4 : ∀ {a1 a2 a3 b1 b2 b3 c1 c2 c3 d1 d2 d3 : Value}, ∀ x ∈ [[a1, a2, a3], [b1, b2, b3], [c1, c2, c3], [d1, d2, d3]], x.length = 3 := by simp
   refine wp_skip ?_
   refine hK25 _ _ ?_
   clear hK25
   refine wp_seq_k ?_; intro K27 hK27
   refine wp_block ?_
   refine wp_seq_k ?_; intro K28 hK28
   refine reg hF hS (sq rfl (q_assign rfl) <|
     sq_end) ?_
   clear hF hS; intro a w hF hS
   refine hK28 _ _ ?_
   clear hK28
   refine wp_block ?_
   obtain ⟨hs0, hhs0, hS⟩ : ∃ h, h = _ ∧ St _ _ h _ := ⟨_, rfl, hS⟩
   refine wp_loopx (γ := Int) (0) (fun (j : Int) => [(36, vi j)]) [(1, _), (2, _), (3, _), (4, _), (5, _), (6, _), (15, _), (17, _), (18, _), (19, _), (20, _), (31, _), (34, _), (35, _)] (fun (j : Int) => hs0) (fun (j : Int) => 0 ≤ j ∧ j ≤ 3) (fun (j : Int) => (3 - j).toNat) (hF.sub ⟨rfl, rfl, rfl, rfl, rfl, rfl, rfl, rfl, rfl, rfl, rfl, rfl, rfl, rfl, rfl, trivial⟩) (by subst hhs0; exact hS) (by exact ⟨Int.le_refl _, by omega⟩) ?_
   clear hF hS; rintro j a w hfact hF hS
   subst hhs0; (try dsimp only at hfact); (try dsimp only at hF); (try dsimp only at hS)
   obtain ⟨hj0, hj1⟩ := hfact
   replace hS : St _ [_, _, _, _, _, _, _, _, _, _, _, _, _] [_, _, _, _, _, _, _, _, _, _, _] _ := hS
   refine wp_seq_k ?_; intro K29 hK29
   refine wp_seq_k ?_; intro K30 hK30
   refine reg hF hS (sq rfl (q_move rfl) <|
     sq rfl (q_move rfl) <|
     sq rfl (q_len_row ty43 0 rfl rfl) <|
     sq rfl (q_lti rfl rfl) <|
     sq_end) ?_
   clear hF hS; intro a w hF hS
   refine hK30 _ _ ?_
   clear hK30
   refine wp_ifd hF rfl (fun hc6 => ?_) (fun hc6 => ?_)
   ·obtain ⟨zK, mk, hZK, hMK⟩ := pickK hA9 hB9 hC9 (k := j.toNat) (by omega)
    have hk9 : ∀ {a b c : Value}, j.toNat < [a, b, c].length := fun {a b c} => by show j.toNat < 3; omega
    refine wp_skip ?_
    refine hK29 _ _ ?_
    clear hK29
    refine wp_seq_k ?_; intro K31 hK31
    refine wp_block ?_
    refine wp_seq_k ?_; intro K32 hK32
    refine regd mixed kQ hF hS (sq rfl (q_ld_blkW ty29 9 rfl rfl bQ rfl) <|
      sq rfl (q_call fn14 rfl (fun w hS => own_ct _ _ _ _ _ w (sl_one' hn9) (Sl.mono (hS.le (.inr (by simp))) hs9) (Sl.mono (hS.le (.inr (by simp))) hb99)) (fun _ _ _ h => h)) <|
      sq rfl (q_move rfl) <|
      sq rfl (q_move rfl) <|
      sq rfl (q_move rfl) <|
      sq rfl (q_idx_row ty43 ty22 0 rfl rfl rfl (by omega)) <|
      sq rfl (q_ld_rowV ty22 0 rfl rfl hk9 rfl) <|
      sq rfl (q_move rfl) <|
      sq rfl (q_move rfl) <|
      sq rfl (q_idx_row ty75 ty67 1 rfl rfl rfl (by omega)) <|
      sq rfl (q_ld_rowP ty67 1 [[_, _, _], [_, _, _], [_, _, _], [_, _, _]] k.toNat rfl hk4 rfl hk5 rfl hcV) <|
      sq rfl (q_call fn44 rfl (fun w hS => given_ct _ _ _ _ _ _ w (Sl.mono (hS.le (hZV.imp id (fun e => by simp [e]))) hsV) (Sl.mono (hS.le (hZV.imp id (fun e => by simp [e]))) hfV) (Sl.mono (hS.le (hZV.imp id (fun e => by simp [e]))) hbV)) (fun _ _ _ h => h)) <|
      sq rfl (q_call fn43 rfl (fun w hS => check_ct _ _ _ _ _ _ _ _ _ _ _ _ _ _ _ (by omega) w (sl_one' hn9) (Sl.mono (hS.le (.inr (by simp))) hs9) (Sl.mono (hS.le (.inr (by simp))) hb99) (Sl.mono (hS.le (.inr (by simp))) hz16) (Sl.mono (hS.le (hZK.imp id (fun e => by simp [e]))) hMK) (Sl.mono (hS.le (hZV.imp id (fun e => by simp [e]))) hsV) (Sl.mono (hS.le (hZV.imp id (fun e => by simp [e]))) hfV) (Sl.mono (hS.le (hZV.imp id (fun e => by simp [e]))) hbV)) (fun _ _ _ h => h)) <|
      sq rfl (q_ld_blkW ty29 9 rfl rfl bQ rfl) <|
      sq rfl (q_move rfl) <|
      sq rfl (q_move rfl) <|
      sq rfl (q_move rfl) <|
      sq rfl (q_idx_row ty43 ty22 0 rfl rfl rfl (by omega)) <|
      sq rfl (q_ld_rowV ty22 0 rfl rfl hk9 rfl) <|
      sq rfl (q_move rfl) <|
      sq rfl (q_move rfl) <|
      sq rfl (q_idx_row ty75 ty67 1 rfl rfl rfl (by omega)) <|
      sq rfl (q_ld_rowP ty67 1 [[_, _, _], [_, _, _], [_, _, _], [_, _, _]] k.toNat rfl hk4 rfl hk5 rfl hcV) <|
      sq rfl (q_call fn45 rfl (fun w hS => rcheck_ct _ _ _ _ _ _ _ _ _ _ _ _ _ _ _ (by omega) w (sl_one' hn9) (Sl.mono (hS.le (.inr (by simp))) hs9) (Sl.mono (hS.le (.inr (by simp))) hb99) (Sl.mono (hS.le (.inr (by simp))) hz16) (Sl.mono (hS.le (hZK.imp id (fun e => by simp [e]))) hMK) (Sl.mono (hS.le (hZV.imp id (fun e => by simp [e]))) hsV) (Sl.mono (hS.le (hZV.imp id (fun e => by simp [e]))) hfV) (Sl.mono (hS.le (hZV.imp id (fun e => by simp [e]))) hbV)) (fun _ _ _ h => h)) <|
      sq rfl (q_nf (q_nei rfl rfl) (rfl)) <|
      sq_end) ?_
    clear hF hS; intro a w hF hS
    refine hK32 _ _ ?_
    clear hK32
    refine wp_if hF rfl (fun h => absurd h (by simp)) (fun _ => ?_)
    refine wp_skip ?_
    refine hK31 _ _ ?_
    clear hK31
    refine reg hF hS (sq rfl (q_move rfl) <|
      sq rfl (q_addi rfl rfl (by omega)) <|
      sq rfl (q_assign rfl) <|
      sq_end) ?_
    clear hF hS; intro a w hF hS
    refine ⟨(j + 1), ?_, ?_, hF.sub ⟨rfl, rfl, rfl, rfl, rfl, rfl, rfl, rfl, rfl, rfl, rfl, rfl, rfl, rfl, rfl, trivial⟩, ?_⟩
    ·(try dsimp only); omega
    ·(try dsimp only); omega
    ·exact hS
   ·refine wp_exit ?_
    refine hK27 _ _ ?_
    clear hK27
    refine reg hF hS (sq rfl (q_move rfl) <|
      sq rfl (q_addi rfl rfl (by omega)) <|
      sq rfl (q_assign rfl) <|
      sq_end) ?_
    clear hF hS; intro a w hF hS
    refine ⟨(k + 1), ?_, ?_, hF.sub ⟨rfl, rfl, rfl, rfl, rfl, rfl, rfl, rfl, rfl, rfl, rfl, rfl, rfl, rfl, trivial⟩, ?_⟩
    ·(try dsimp only); omega
    ·(try dsimp only); omega
    ·exact hS
  ·refine wp_exit ?_
   refine hK7 _ _ ?_
   clear hK7
   refine reg hF hS (sq rfl (q_move rfl) <|
     sq rfl (q_addi rfl rfl (by omega)) <|
     sq rfl (q_assign rfl) <|
     sq_end) ?_
   clear hF hS; intro a w hF hS
   replace hS := hS.keep (sQ.n.n.n.n.n.n.n.n.n.n.n.n) (sQ.n.n.n.n.n.n.n.n.n.n)
   refine ⟨(i + 1), ?_, ?_, hF.sub ⟨rfl, rfl, rfl, rfl, rfl, rfl, rfl, rfl, rfl, trivial⟩, ?_⟩
   ·(try dsimp only); omega
   ·(try dsimp only); omega
   ·exact hS
 ·refine wp_exit ?_
  refine hK3 _ _ ?_
  clear hK3
  refine wp_seq_k ?_; intro K33 hK33
  refine reg hF hS (sq rfl (q_call fn19 rfl (fun w hS => lives_ct w ) (fun _ _ _ h => h)) <|
    sq rfl (q_assign rfl) <|
    sq_end) ?_
  clear hF hS; intro a w hF hS
  refine hK33 _ _ ?_
  clear hK33
  refine wp_ret ?_
  exact fn_ret (rs := [.tmp 16]) rfl hF hS (vs := [_]) ⟨rfl, trivial⟩ zQ zQ (rfl)
end Go.Proofs.Ytcbjemjohacbpaa
